/- Texts Reg2 to H3 of this proof, in one file. -/
import Derived.Test.YtaadpihbjhachaaGreatW01
import Derived.Test.YtaadpihbjhachaaGreatW10
namespace Go.Proofs.YtaadpihbjhachaaGreat
set_option maxRecDepth 100000
set_option maxHeartbeats 16000000
section
open Go Go.RowKit
section
variable {P:Program} {ops:Array Oper} {Q:Exit→Act→World→Prop} {md:Region.Mode} {S:World→Prop} {late:Nat→Bool}
theorem wpL_firstW {i:Nat} {oi:Oper} {v:Value} (hi:ops[i]?=some oi) (hsel:∀(j:Nat) (o:Oper) cs b,ops[j]?=some o→o.op ≠ .select cs b)
  (hQ:∀c a w,Q (.panic c) (a.put oi.dst v) w→Q (.panic c) a w) (hl:late i=true) :
  ∀(fuel:Nat) (listed:Array Bool) (a:Act) (w:World),Closed md ops listed →
   (∀j oj,ops[j]?=some oj→j≠i→listed.getD j true=false→(∀e∈oj.after,Region.binds md e=true→e.on≠i)→oi.apart ops oj=true) →
   i∈Region.ready md ops listed→YieldsIf P ops (fun _=>True) oi v a →
   wpL P md ops Q S late fuel (listed.setIfInBounds i true) (a.put oi.dst v) w→wpL P md ops Q S late (fuel+1) listed a w:=by
 intro fuel
 induction fuel with
 | zero =>
  intro listed a w hcl hfree hr hy H
  refine ⟨fun h=>(by rw[h] at hr;cases hr),fun j hj=>?_⟩
  by_cases hji:j=i
  ·subst hji;exact hy.wpOp hi trivial ⟨fun h=>(by rw[hl] at h;cases h),H⟩
  ·have:=ready_mono hj hji
   rw[H.1] at this
   cases this
 | succ fuel ih =>
  intro listed a w hcl hfree hr hy H
  refine ⟨fun h=>(by rw[h] at hr;cases hr),fun j hj=>?_⟩
  by_cases hji:j=i
  ·subst hji;exact hy.wpOp hi trivial ⟨fun h=>(by rw[hl] at h;cases h),H⟩
  ·have h1:=H.2 j (ready_mono hj hji)
   obtain ⟨hjun,oj,hoj,hall⟩:=mem_ready.1 hj
   have hnot:∀e∈oj.after,Region.binds md e=true→e.on≠i:=fun e he hb heq=>by
    have h1:=hall e he hb
    have h0:=(mem_ready.1 hr).1
    rw[heq] at h1
    rcases Nat.lt_or_ge i listed.size with h'|h'
    ·simp[h'] at h0 h1;rw[h0] at h1;cases h1
    ·simp[Array.getElem?_eq_none h'] at h1
   have h2:=wpOp_putIf hoj (hfree j oj hoj hji hjun hnot) (fun cs b=>hsel i oi cs b hi) (fun cs b=>hsel j oj cs b hoj) hQ hy h1
   have hfree':∀k ok,ops[k]?=some ok→k≠i→(listed.setIfInBounds j true).getD k true=false →
     (∀e∈ok.after,Region.binds md e=true→e.on≠i)→oi.apart ops ok=true:=fun k ok hk hki hun hno=>by
    refine hfree k ok hk hki ?_ hno
    by_cases hjk:j=k
    ·subst hjk;exact hjun
    ·rw[getD_set_ne true hjk] at hun;exact hun
   refine wpOp_mono (fun a' w' h3=>⟨h3.2.1,ih (listed.setIfInBounds j true) a' w' (hcl.set hj) hfree' (ready_mono hr (Ne.symm hji)) h3.1 ?_⟩) h2
   rw[Array.setIfInBounds_comm _ _ hji]
   exact h3.2.2
def Has (listed:Array Bool) (pre:List Nat):Prop:=∀p∈pre,listed.getD p false=true
theorem Has.set {listed:Array Bool} {pre:List Nat} (h:Has listed pre) (j:Nat):Has (listed.setIfInBounds j true) pre:=fun p hp=>getD_set_true (h p hp)
theorem wpL_firstP {pre:List Nat} {i:Nat} {oi:Oper} {v:Value} (hi:ops[i]?=some oi) (hsel:∀(j:Nat) (o:Oper) cs b,ops[j]?=some o→o.op ≠ .select cs b)
  (hQ:∀c a w,Q (.panic c) (a.put oi.dst v) w→Q (.panic c) a w)
  (hlate:∀j listed,Has listed pre→late j=true→Closed md ops listed→j∈Region.ready md ops listed→listed.getD i false=true) :
  ∀(fuel:Nat) (listed:Array Bool) (a:Act) (w:World),Has listed pre→Closed md ops listed →
   (∀j oj,ops[j]?=some oj→j≠i→listed.getD j true=false→(∀e∈oj.after,Region.binds md e=true→e.on≠i)→oi.apart ops oj=true) →
   i∈Region.ready md ops listed→YieldsIf P ops S oi v a→S w →
   wpL P md ops Q S late fuel (listed.setIfInBounds i true) (a.put oi.dst v) w→wpL P md ops Q S late (fuel+1) listed a w:=by
 intro fuel
 induction fuel with
 | zero =>
  intro listed a w hp hcl hfree hr hy hS H
  refine ⟨fun h=>(by rw[h] at hr;cases hr),fun j hj=>?_⟩
  by_cases hji:j=i
  ·subst hji;exact hy.wpOp hi hS ⟨fun _=>hS,H⟩
  ·have:=ready_mono hj hji
   rw[H.1] at this
   cases this
 | succ fuel ih =>
  intro listed a w hp hcl hfree hr hy hS H
  refine ⟨fun h=>(by rw[h] at hr;cases hr),fun j hj=>?_⟩
  by_cases hji:j=i
  ·subst hji;exact hy.wpOp hi hS ⟨fun _=>hS,H⟩
  ·have h1:=H.2 j (ready_mono hj hji)
   obtain ⟨hjun,oj,hoj,hall⟩:=mem_ready.1 hj
   have hnot:∀e∈oj.after,Region.binds md e=true→e.on≠i:=fun e he hb heq=>by
    have h1:=hall e he hb
    have h0:=(mem_ready.1 hr).1
    rw[heq] at h1
    rcases Nat.lt_or_ge i listed.size with h'|h'
    ·simp[h'] at h0 h1;rw[h0] at h1;cases h1
    ·simp[Array.getElem?_eq_none h'] at h1
   have hjl:late j=false:=by
    cases hl:late j with
    | false=>rfl
    | true =>
     have h1:=hlate j listed hp hl hcl hj
     have h0:=(mem_ready.1 hr).1
     rcases Nat.lt_or_ge i listed.size with h'|h'
     ·simp[h'] at h0 h1;rw[h0] at h1;cases h1
     ·simp[Array.getElem?_eq_none h'] at h1
   have h2:=wpOp_putIf hoj (hfree j oj hoj hji hjun hnot) (fun cs b=>hsel i oi cs b hi) (fun cs b=>hsel j oj cs b hoj) hQ hy h1
   have hfree':∀k ok,ops[k]?=some ok→k≠i→(listed.setIfInBounds j true).getD k true=false →
     (∀e∈ok.after,Region.binds md e=true→e.on≠i)→oi.apart ops ok=true:=fun k ok hk hki hun hno=>by
    refine hfree k ok hk hki ?_ hno
    by_cases hjk:j=k
    ·subst hjk;exact hjun
    ·rw[getD_set_ne true hjk] at hun;exact hun
   refine wpOp_mono (fun a' w' h3=>⟨h3.2.1,ih (listed.setIfInBounds j true) a' w' (hp.set j) (hcl.set hj) hfree' (ready_mono hr (Ne.symm hji)) h3.1 (h3.2.1 hjl) ?_⟩) h2
   rw[Array.setIfInBounds_comm _ _ hji]
   exact h3.2.2
def wpF (P:Program) (ops:Array Oper) (K:Act→Prop):List Oper→Act→Prop
 | [],a=>K a
 | o :: r,a=>if Region.wanted o (yielded ops a.tmps) then ∃v,(∀w',(execOp a.eval o).run P w' = .ok (.value v) w')∧wpF P ops K r (a.put o.dst v) else wpF P ops K r (a.put o.dst undef)
def pickF (l:List Oper):List Nat→List Oper
 | []=>[]
 | i :: r=>match zG l i with
  | some o=>o :: pickF l r
  | none=>[]
def preOk (md:Region.Mode) (ops:Array Oper):List Nat→Array Bool→Bool
 | [],_=>true
 | i :: r,listed=>(Region.ready md ops listed).contains i&&Region.free md ops listed i&&preOk md ops r (listed.setIfInBounds i true)
def preSet:List Nat→Array Bool→Array Bool
 | [],listed=>listed
 | i :: r,listed=>preSet r (listed.setIfInBounds i true)
theorem preSet_has:∀(r:List Nat) (listed:Array Bool),preOk md ops r listed=true→Has (preSet r listed) r∧∀pre,Has listed pre→Has (preSet r listed) pre
 | [],listed,_=>⟨fun p hp=>(by cases hp),fun pre h=>h⟩
 | i :: r,listed,hc=>by
  simp only[preOk,Bool.and_eq_true] at hc
  obtain ⟨⟨hr,hf⟩,hc'⟩:=hc
  have ih:=preSet_has r _ hc'
  have hi:(listed.setIfInBounds i true).getD i false=true:=by
   obtain ⟨h1,oi,hoi,_⟩:=(mem_ready (md:=md) (ops:=ops) (listed:=listed) (j:=i)).1 (by simpa using hr)
   rcases Nat.lt_or_ge i listed.size with h'|h'
   ·simp[h']
   ·simp[Array.getElem?_eq_none h'] at h1
  refine ⟨fun p hp=>?_,fun pre h=>ih.2 pre (h.set i)⟩
  rcases List.mem_cons.1 hp with e|e
  ·subst e
   exact ih.2 [p] (fun q hq=>by obtain rfl:q=p:=(by simpa using hq);exact hi) p (by simp)
  ·exact ih.1 p e
theorem wpL_of_F (hs:Region.noSelect ops=true) (hQ:∀c a d v w,Q (.panic c) (Act.put a d v) w→Q (.panic c) a w) (fuel:Nat) :
  ∀(pre:List Nat) (listed:Array Bool) (a:Act) (w:World),(∀p∈pre,late p=true)→Closed md ops listed→preOk md ops pre listed=true →
   wpF P ops (fun a'=>wpL P md ops Q S late fuel (preSet pre listed) a' w) (pickF ops.toList pre) a→wpL P md ops Q S late (fuel+pre.length) listed a w∧Closed md ops (preSet pre listed)
 | [],listed,a,w,_,hcl,_,h=>⟨h,hcl⟩
 | i :: r,listed,a,w,hl,hcl,hc,h=>by
  simp only[preOk,Bool.and_eq_true] at hc
  obtain ⟨⟨hr,hf⟩,hc'⟩:=hc
  have hr':i∈Region.ready md ops listed:=by simpa using hr
  obtain ⟨oi,hoi⟩:∃oi,ops[i]?=some oi:=by
   obtain ⟨_,oi,h1,_⟩:=(mem_ready (md:=md) (ops:=ops) (listed:=listed) (j:=i)).1 hr'
   exact ⟨oi,h1⟩
  have hp:zG ops.toList i=some oi:=by rw[qK];simpa using hoi
  simp only[pickF,hp,wpF] at h
  have key:∀v,YieldsIf P ops (fun _=>True) oi v a→wpF P ops (fun a'=>wpL P md ops Q S late fuel (preSet r (listed.setIfInBounds i true)) a' w) (pickF ops.toList r) (a.put oi.dst v)→wpL P md ops Q S late (fuel+(r.length+1)) listed a w∧Closed md ops (preSet (i :: r) listed):=by
   intro v hy hK
   have ih:=wpL_of_F hs hQ fuel r _ _ w (fun p hp=>hl p (by simp[hp])) (hcl.set hr') hc' hK
   exact ⟨wpL_firstW hoi (Region.noSelect_spec hs) (fun c a' w'=>hQ c a' _ _ w') (hl i (by simp)) (fuel+r.length) listed a w hcl (Region.free_spec hoi hf) hr' hy ih.1,ih.2⟩
  by_cases hw:Region.wanted oi (yielded ops a.tmps)=true
  ·rw[if_pos hw] at h
   obtain ⟨v,hv,hK⟩:=h
   exact key v (.inl ⟨hw,fun w' _=>hv w'⟩) hK
  ·rw[if_neg hw] at h
   exact key undef (.inr ⟨by simpa using hw,rfl⟩) h
theorem wpL_of_T (hs:Region.noSelect ops=true) (lt pre:List Nat) (hQ:∀c a d v w,Q (.panic c) (Act.put a d v) w→Q (.panic c) a w) :
  ∀(seq:List (Nat × Nat)) (listed:Array Bool) (a:Act) (w:World),Has listed pre→Closed md ops listed→((∃x∈seq,x.1≤1)→S w) →
   kd md ops lt seq listed=true→wpS P ops S Q (zt ops.toList seq) a w→wpL P md ops Q S (fun i=>lt.contains i||pre.contains i) seq.length listed a w
 | [],listed,a,w,_,_,_,hc,h=>⟨by simpa [kd] using hc,by simpa only[zt,wpS] using h⟩
 | (0,i) :: r,listed,a,w,hh,hcl,hS,hc,h=>by
  have hSw:S w:=hS ⟨_,List.mem_cons_self,Nat.zero_le _⟩
  simp only[kd,Bool.and_eq_true] at hc
  obtain ⟨⟨⟨⟨hr,hf⟩,hnl⟩,hla⟩,hc'⟩:=hc
  obtain ⟨oi,hoi⟩:∃oi,ops[i]?=some oi:=by
   have:=(mem_ready (md:=md) (ops:=ops) (listed:=listed) (j:=i)).1 (by simpa using hr)
   obtain ⟨_,oi,h1,_⟩:=this
   exact ⟨oi,h1⟩
  have hp:zG ops.toList i=some oi:=by rw[qK];simpa using hoi
  have hlate:∀j listed,Has listed pre→(lt.contains j||pre.contains j)=true→Closed md ops listed→j∈Region.ready md ops listed→listed.getD i false=true:=by
   intro j listed' hp' hl hcl' hj
   rcases Bool.or_eq_true _ _▸hl with hl|hl
   ·have h1:=List.all_eq_true.1 hla j (by simpa using hl)
    exact qP hcl' _ _ (ready_afters hj) i (by simpa using h1)
   ·have h1:=hp' j (by simpa using hl)
    have h0:=(mem_ready.1 hj).1
    rcases Nat.lt_or_ge j listed'.size with h'|h'
    ·simp[h'] at h0 h1;rw[h0] at h1;cases h1
    ·simp[Array.getElem?_eq_none h'] at h1
  simp only[zt,hp,wpS] at h
  have key:∀v,YieldsIf P ops S oi v a→wpS P ops S Q (zt ops.toList r) (a.put oi.dst v) w→wpL P md ops Q S (fun i=>lt.contains i||pre.contains i) (r.length+1) listed a w:=by
   intro v hy hK
   exact wpL_firstP (pre:=pre) hoi (Region.noSelect_spec hs) (fun c a' w'=>hQ c a' _ _ w') hlate r.length listed a w hh hcl (Region.free_spec hoi hf) (by simpa using hr) hy hSw
    (wpL_of_T hs lt pre hQ r _ _ w (hh.set i) (hcl.set (by simpa using hr)) (fun _=>hSw) hc' hK)
  by_cases hw:Region.wanted oi (yielded ops a.tmps)=true
  ·rw[if_pos hw] at h
   obtain ⟨v,hv,hK⟩:=h
   exact key v (.inl ⟨hw,hv⟩) hK
  ·rw[if_neg hw] at h
   exact key undef (.inr ⟨by simpa using hw,rfl⟩) h
 | (1,i) :: r,listed,a,w,hh,hcl,hS,hc,h=>by
  have hSw:S w:=hS ⟨_,List.mem_cons_self,Nat.le_refl _⟩
  simp only[kd,Bool.and_eq_true,beq_iff_eq] at hc
  obtain ⟨hr,hc'⟩:=hc
  obtain ⟨oi,hoi⟩:∃oi,ops[i]?=some oi:=by
   obtain ⟨_,oi,h1,_⟩:=(mem_ready (md:=md) (ops:=ops) (listed:=listed) (j:=i)).1 (by rw[hr];simp)
   exact ⟨oi,h1⟩
  have hp:zG ops.toList i=some oi:=by rw[qK];simpa using hoi
  simp only[zt,hp,wpS] at h
  refine ⟨fun h0=>absurd (hr▸h0) (by simp),fun j hj=>?_⟩
  rw[hr] at hj
  obtain rfl:j=i:=by simpa using hj
  refine wpOp_of_if hoi ?_
  split
  ·rename_i hw
   rw[if_pos hw] at h
   exact h.imp (Oper.wp_mono fun a' w' hk=>⟨fun _=>hk.1,wpL_of_T hs lt pre hQ r _ a' w' (hh.set j) (hcl.set (by rw[hr];simp)) (fun _=>hk.1) hc' hk.2⟩) id
  ·rename_i hw
   rw[if_neg hw] at h
   exact ⟨fun _=>hSw,wpL_of_T hs lt pre hQ r _ _ w (hh.set j) (hcl.set (by rw[hr];simp)) (fun _=>hSw) hc' h⟩
 | (n+2,i) :: r,listed,a,w,hh,hcl,hS,hc,h=>by
  simp only[kd,Bool.and_eq_true,beq_iff_eq] at hc
  obtain ⟨⟨⟨hr,hl⟩,hno⟩,hc'⟩:=hc
  obtain ⟨oi,hoi⟩:∃oi,ops[i]?=some oi:=by
   obtain ⟨_,oi,h1,_⟩:=(mem_ready (md:=md) (ops:=ops) (listed:=listed) (j:=i)).1 (by rw[hr];simp)
   exact ⟨oi,h1⟩
  have hp:zG ops.toList i=some oi:=by rw[qK];simpa using hoi
  simp only[zt,hp,wpS] at h
  refine ⟨fun h0=>absurd (hr▸h0) (by simp),fun j hj=>?_⟩
  rw[hr] at hj
  obtain rfl:j=i:=by simpa using hj
  have hnoz:¬∃x∈r,x.1≤1:=by
   rintro ⟨x,hx,h0⟩
   have:=List.all_eq_true.1 hno x hx
   simp at this
   omega
  refine wpOp_of_if hoi ?_
  split
  ·rename_i hw
   rw[if_pos hw] at h
   exact h.imp (Oper.wp_mono fun a' w' hk=>⟨fun h0=>by rw[show (fun i=>lt.contains i||pre.contains i) j=(lt.contains j||pre.contains j) from rfl,hl] at h0;exact absurd h0 (by simp),wpL_of_T hs lt pre hQ r _ a' w' (hh.set j) (hcl.set (by rw[hr];simp)) (fun hz=>absurd hz hnoz) hc' hk⟩) id
  ·rename_i hw
   rw[if_neg hw] at h
   exact ⟨fun h0=>by rw[show (fun i=>lt.contains i||pre.contains i) j=(lt.contains j||pre.contains j) from rfl,hl] at h0;exact absurd h0 (by simp),wpL_of_T hs lt pre hQ r _ _ w (hh.set j) (hcl.set (by rw[hr];simp)) (fun hz=>absurd hz hnoz) hc' h⟩
theorem qp {id:Nat} {l:List Oper} {a:Act} {w:World} (S:World→Prop) (pre lt:List Nat) (seq:List (Nat × Nat))
  (hm:P.follows .mixedOrders=true) (hc:(Region.noSelect l.toArray&&decide (seq.length+pre.length≤l.length)&&preOk .any l.toArray pre (Array.replicate l.length false)&&kd .any l.toArray lt seq (preSet pre (Array.replicate l.length false)))=true)
  (hS:S w.drew)
  (h:wpF P l.toArray (fun a'=>wpS P l.toArray S (NoPanic Q) (zt l seq) a' w.drew) (pickF l pre) a):(Code.region id l.toArray true).wp P Q a w:=by
 refine wp_region_noPanic ?_
 simp only[Bool.and_eq_true,decide_eq_true_eq] at hc
 obtain ⟨⟨⟨hs,hlen⟩,hp⟩,hc⟩:=hc
 refine wp_region_any hm ?_
 obtain ⟨m,hm'⟩:∃m,l.toArray.size=(seq.length+pre.length)+m:=⟨l.length - (seq.length+pre.length),by simp;omega⟩
 rw[hm']
 refine wpAny_more _ _ _ _ _ (wpAny_of_L (S:=S) (late:=fun i=>lt.contains i||pre.contains i) _ _ _ _ ?_)
 have e:Array.replicate (seq.length+pre.length+m) false=Array.replicate l.length false:=by rw[← hm'];simp
 rw[e]
 have hh:=(preSet_has (md := .any) (ops:=l.toArray) pre (Array.replicate l.length false) hp).1
 have hcl0:Closed .any l.toArray (Array.replicate l.length false):=closed_none _
 have hQ:∀c a d v w,NoPanic Q (.panic c) (Act.put a d v) w→NoPanic Q (.panic c) a w:=fun _ _ _ _ _ h=>h
 have hmono:∀(os:List Oper) (a:Act) (K K':Act→Prop),(∀a',K a'→K' a')→wpF P l.toArray K os a→wpF P l.toArray K' os a:=by
  intro os
  induction os with
  | nil=>intro a K K' hk h;exact hk a h
  | cons o r ih =>
   intro a K K' hk h
   simp only[wpF] at h ⊢
   split
   ·rename_i hw
    rw[if_pos hw] at h
    obtain ⟨v,hv,h⟩:=h
    exact ⟨v,hv,ih _ K K' hk h⟩
   ·rename_i hw
    rw[if_neg hw] at h
    exact ih _ K K' hk h
 have hcl:Closed .any l.toArray (preSet pre (Array.replicate l.length false)):=by
  have hgen:∀(pre:List Nat) (listed:Array Bool),Closed .any l.toArray listed→preOk .any l.toArray pre listed=true→Closed .any l.toArray (preSet pre listed):=by
   intro pre
   induction pre with
   | nil=>intro listed h _;exact h
   | cons i r ih =>
    intro listed h hc
    simp only[preOk,Bool.and_eq_true] at hc
    exact ih _ (h.set (by simpa using hc.1.1)) hc.2
  exact hgen pre _ hcl0 hp
 exact (wpL_of_F hs hQ seq.length pre _ a w.drew (fun p hp=>by simp[hp]) hcl0 hp (hmono _ _ _ _ (fun a' h'=>wpL_of_T hs lt pre hQ seq _ a' w.drew hh hcl (fun _=>hS) hc h') h)).1
theorem kc {K:Act→Prop} {a:Act} {o:Oper} {r:List Oper} (hp:plainOp o=true) (hw:Region.wanted o (yielded ops a.tmps)=true)
  (h:∀K':Act→Prop,(∀a',wpF P ops K r a'→K' a')→o.quiet P a (fun _=>True) K'):wpF P ops K (o :: r) a:=by
 simp only[wpF,hw,if_true]
 obtain ⟨v,hv,hK⟩:=h (fun a'=>wpF P ops K r a') (fun _ h=>h)
 refine ⟨v,fun w'=>?_,hK⟩
 have hq:=hv w' trivial
 unfold Oper.quietAt at hq
 cases hr:(execOp a.eval o).run P w' with
 | halt x w1=>rw[hr] at hq;exact hq.elim
 | ok n w1 =>
  obtain ⟨u,rfl⟩:=plain_value hp _ hr
  rw[hr] at hq
  obtain ⟨rfl,rfl⟩:=hq
  rfl
theorem wpF_skip {K:Act→Prop} {a:Act} {dst:Option Tmp} {op:Op} {ty:TypeId} {pos:String} {after:Array Edge} {g:Option (Nat × Bool)} {r:List Oper}
  (hw:Region.wanted (Oper.mk dst op ty pos after g) (yielded ops a.tmps)=false)
  (h:∀K':Act→Prop,(∀a',wpF P ops K r a'→K' a')→(Oper.mk dst (.move (.const undef)) ty pos after none).quiet P a (fun _=>True) K'):wpF P ops K (Oper.mk dst op ty pos after g :: r) a:=by
 obtain ⟨v,hv,hK⟩:=h (fun a'=>wpF P ops K r a') (fun _ h=>h)
 have hq:=hv default trivial
 have:v=undef:=by
  simp[Oper.quietAt,execOp,Sem.run_pure,Oper.quietUpon] at hq
  exact hq.symm
 subst this
 simp only[wpF,hw]
 exact hK
theorem wpF_end {K:Act→Prop} {a:Act} (h:K a):wpF P ops K [] a:=h
attribute [irreducible] wpF
end
end
section
open Go Go.RowKit
theorem infoSet:(Tryz.prog.info? 148).map (fun i=>(i.zero,i.size,i.bytes))=some (some (.agg #[.int .u64 0,.int .u64 0,.int .u64 0,.int .u64 0]),4,32):=by kernel_rfl
def jB:List Nat→List Value
 | []=>[]
 | M :: r=>(setA M).toList++jB r
theorem setsL_len:∀Ms:List Nat,(jB Ms).length=Ms.length*4
 | []=>rfl
 | M :: r=>by
  have:=setsL_len r
  simp only[jB,List.length_append,this,List.length_cons,setA]
  simp;omega
theorem setsL_snoc:∀(Ms:List Nat) (M:Nat),jB (Ms++[M])=jB Ms++(setA M).toList
 | [],M=>by simp[jB]
 | _ :: r,M=>by simp[jB,setsL_snoc r M]
theorem setsL_get:∀(Ms:List Nat) (k q:Nat),k<Ms.length→q<4→(jB Ms)[k*4+q]?=some (.int .u64 ((ze (Ms[k]?.getD 0) q:Nat):Int))
 | M :: r,0,q,_,hq=>by
  simp only[jB]
  rw[List.getElem?_append_left (by simp[setA];omega)]
  match q,hq with
  | 0,_=>rfl
  | 1,_=>rfl
  | 2,_=>rfl
  | 3,_=>rfl
 | M :: r,k+1,q,hk,hq=>by
  simp only[jB]
  rw[List.getElem?_append_right (by simp[setA];omega),show (k+1)*4+q - (setA M).toList.length=k*4+q from by simp[setA];omega,setsL_get r k q (by simpa using hk) hq]
  simp
theorem SL.of_owns {w:World} {base n c m:Nat} {a:Option Addr} {Ms:List Nat} (h:w.ownsRow base 148 4 (.slice a n c) m (jB Ms)) (hn:Ms.length≤4398046511104):SL w a n Ms∧n≤c∧n=m∧Ms.length=n:=by
 have hl:=h.1
 rw[setsL_len] at hl
 rcases h.2 with ⟨h2,h3⟩|⟨g,cap,cur,hv,hb,hh,hnc,hm,hs,ht⟩
 ·simp only[Value.slice.injEq] at h2
  obtain ⟨rfl,rfl,rfl⟩:=h2
  exact ⟨⟨⟨by omega,by omega⟩,fun k hk=>by omega⟩,by omega,by omega,by omega⟩
 ·simp only[Value.slice.injEq] at hv
  obtain ⟨rfl,rfl,rfl⟩:=hv
  refine ⟨⟨⟨by omega,by omega⟩,fun k hk=>⟨g,0,rfl,lt_of_block hh,fun q hq=>?_⟩⟩,hnc,rfl,by omega⟩
  have h4:=setsL_get Ms k q (by omega) hq
  rw[← ht,List.getElem?_take,if_pos (by omega)] at h4
  rw[show 0+k*4+q=k*4+q from by omega,cell_of_row w g _ cur _ (0,0) hh]
  simpa using h4
theorem owns_set4 {w:World} {base:Nat} {e:TypeId} {size g n cap:Nat} {xs:List Value} (h:w.ownsRow base e size (.slice (some ⟨g,0,none⟩) n cap) n xs) (i:Nat) (v:Value) :
  (w.setCell ⟨g,i,none⟩ v).ownsRow base e size (.slice (some ⟨g,0,none⟩) n cap) n (xs.set i v):=by
 obtain ⟨h1,h2⟩:=h
 refine ⟨by rw[List.length_set];exact h1,.inr ?_⟩
 rcases h2 with ⟨h2,_⟩|⟨g',cap',cur,hv,hb,hh,hn,hm,hs,ht⟩
 ·cases h2
 ·simp only[Value.slice.injEq,Option.some.injEq,Addr.mk.injEq,true_and,and_true] at hv
  obtain ⟨rfl,rfl⟩:=hv
  refine ⟨g,cap,cur.setIfInBounds i v,rfl,hb,zC hh v,hn,hm,by simpa using hs,?_⟩
  rw[← ht]
  simp[List.take_set]
theorem setsL_set {Ms:List Nat} {k q M':Nat} (hk:k<Ms.length) (hq:q<4) (ho:∀q',q'≠q→ze M' q'=ze (Ms[k]?.getD 0) q') :
  (jB Ms).set (k*4+q) (.int .u64 ((ze M' q:Nat):Int))=jB (Ms.set k M'):=by
 apply List.ext_getElem?
 intro i
 by_cases hi:i<Ms.length*4
 ·obtain ⟨k',q',hq',rfl⟩:∃k' q',q'<4∧i=k'*4+q':=⟨i / 4,i % 4,by omega,by omega⟩
  rw[setsL_get (Ms.set k M') k' q' (by simp;omega) hq']
  by_cases e:k*4+q=k'*4+q'
  ·obtain ⟨rfl,rfl⟩:k=k'∧q=q':=⟨by omega,by omega⟩
   rw[List.getElem?_set_self (by rw[setsL_len];omega)]
   simp[hk]
  ·rw[List.getElem?_set_ne e,setsL_get Ms k' q' (by omega) hq']
   by_cases e2:k=k'
   ·subst e2
    rw[List.getElem?_set_self hk,Option.getD_some,ho q' (by omega)]
   ·rw[List.getElem?_set_ne e2]
 ·rw[List.getElem?_eq_none (by rw[List.length_set,setsL_len];omega),List.getElem?_eq_none (by rw[setsL_len,List.length_set];omega)]
theorem PutW.owns {w w':World} {base g n cap k M':Nat} {Ms:List Nat} (h:w.ownsRow base 148 4 (.slice (some ⟨g,0,none⟩) n cap) n (jB Ms)) (hk:k<Ms.length) (hp:PutW w w' g (k*4) (Ms[k]?.getD 0) M') :
  w'.ownsRow base 148 4 (.slice (some ⟨g,0,none⟩) n cap) n (jB (Ms.set k M')):=by
 obtain ⟨q,hq,rfl,ho⟩:=hp
 rw[← setsL_set hk hq ho]
 exact owns_set4 h _ _
theorem PutW.board {w w':World} {b M M' n c:Nat} {t0 t1 t2 t3:Value} {a:Option Addr} {T:TypeId} (h:w.heap[b]?=some (.cells (jY t0 t1 t2 t3 a n c M) T (0,0))) (hp:PutW w w' b 5 M M'):w'.heap[b]?=some (.cells (jY t0 t1 t2 t3 a n c M') T (0,0)):=by
 obtain ⟨q,hq,rfl,ho⟩:=hp
 show (w.setCell _ _).heap[b]?=_
 rw[zC h]
 match q,hq with
 | 0,_=>simp[jY,ho 1 (by decide),ho 2 (by decide),ho 3 (by decide)]
 | 1,_=>simp[jY,ho 0 (by decide),ho 2 (by decide),ho 3 (by decide)]
 | 2,_=>simp[jY,ho 0 (by decide),ho 1 (by decide),ho 3 (by decide)]
 | 3,_=>simp[jY,ho 0 (by decide),ho 1 (by decide),ho 2 (by decide)]
theorem SetC.board {w:World} {b M n c:Nat} {t0 t1 t2 t3:Value} {a:Option Addr} {T:TypeId} (h:w.heap[b]?=some (.cells (jY t0 t1 t2 t3 a n c M) T (0,0))):SetC w b 5 M:=by
 intro q hq
 match q,hq with
 | 0,_=>exact zc h 5
 | 1,_=>exact zc h 6
 | 2,_=>exact zc h 7
 | 3,_=>exact zc h 8
theorem cell_new4 (w:World) (x0 x1 x2 x3:Value) (T:TypeId):∀j u,[x0,x1,x2,x3][j]?=some u→(w.alloc (.cells #[x0,x1,x2,x3] T)).cell? ((⟨w.heap.size,0,none⟩:Addr).add j)=some u:=by
 intro j u hj
 have h:=zq w #[x0,x1,x2,x3] T j
 have hj2:(#[x0,x1,x2,x3]:Array Value)[j]?=some u:=by simpa using hj
 rw[hj2] at h
 rw[← h]
 unfold Addr.add
 split
 ·rename_i e;subst e;rfl
 ·simp
theorem cell_new4d (w:World) (x0 x1 x2 x3:Value) (T:TypeId):∀j u,[x0,x1,x2,x3][j]?=some u→((w.alloc (.cells #[x0,x1,x2,x3] T)).drew).cell? ((⟨w.heap.size,0,none⟩:Addr).add j)=some u:=fun j u hj=>cell_new4 w x0 x1 x2 x3 T j u hj
theorem PutW.setA {w w':World} {b M M':Nat} {T:TypeId} (h:w.heap[b]?=some (.cells (setA M) T (0,0))) (hp:PutW w w' b 0 M M'):w'.heap[b]?=some (.cells (Go.Proofs.YtaadpihbjhachaaGreat.setA M') T (0,0)):=by
 obtain ⟨q,hq,rfl,ho⟩:=hp
 show (w.setCell _ _).heap[b]?=_
 rw[zC h]
 match q,hq with
 | 0,_=>simp[Go.Proofs.YtaadpihbjhachaaGreat.setA,ho 1 (by decide),ho 2 (by decide),ho 3 (by decide)]
 | 1,_=>simp[Go.Proofs.YtaadpihbjhachaaGreat.setA,ho 0 (by decide),ho 2 (by decide),ho 3 (by decide)]
 | 2,_=>simp[Go.Proofs.YtaadpihbjhachaaGreat.setA,ho 0 (by decide),ho 1 (by decide),ho 3 (by decide)]
 | 3,_=>simp[Go.Proofs.YtaadpihbjhachaaGreat.setA,ho 0 (by decide),ho 1 (by decide),ho 2 (by decide)]
theorem boardA_set (t0 t1 t2 t3:Value) (a:Option Addr) (n c M:Nat) (a':Option Addr) (n' c':Nat):(jY t0 t1 t2 t3 a n c M).setIfInBounds 4 (.slice a' n' c')=jY t0 t1 t2 t3 a' n' c' M:=by simp[jY]
theorem zM {w:World} {base:Nat} {e:TypeId} {size:Nat} {v:Value} {n:Nat} {xs:List Value} (h:w.ownsRow base e size v n xs):∃a c,v = .slice a n c:=by
 rcases h.2 with ⟨h2,h3⟩|⟨g,cap,cur,hv,_⟩
 ·exact ⟨none,0,by rw[h2,h3]⟩
 ·exact ⟨_,_,hv⟩
theorem je {S:Nat→Prop} {W W':World} {b:Nat} {o:Obj} (hs:Stays S W W') (hq:W.heap[b]?=some o) (hb:¬S b):W'.heap[b]?=some o:=(hs.block b (zy hq) hb).trans hq
theorem zL {w:World} {base:Nat} {e:TypeId} {size:Nat} {v:Value} {n:Nat} {xs:List Value} (h:w.ownsRow base e size v n xs) {k:Nat} (hk:v.ownBlock=some k):base≤k:=by
 rcases h.2 with ⟨rfl,_⟩|⟨g,cap,cur,rfl,hb,_⟩
 ·cases hk
 ·cases hk;exact hb
theorem grow_s {W W2:World} {o:Obj} {row:Option Nat} (hg:(W.alloc o).drew.grownBy W2 row):Stays (fun k=>row=some k) W W2 :=
 (Below.stays ((Below.refl _ W).alloc (Nat.le_refl _) o).drew _).trans (Stays.grown (S:=fun k=>row=some k) hg (fun _ e=>e)) (fun _ e => .inl e)
theorem jR {W W2:World} {o:Obj} {row:Option Nat} (hg:(W.alloc o).grownBy W2 row):Stays (fun k=>row=some k) W W2 :=
 (Below.stays ((Below.refl _ W).alloc (Nat.le_refl _) o) _).trans (Stays.grown (S:=fun k=>row=some k) hg (fun _ e=>e)) (fun _ e => .inl e)
theorem owns_blk {w:World} {base n cap:Nat} {e:TypeId} {size:Nat} {a:Option Addr} {xs:List Value} (h:w.ownsRow base e size (.slice a n cap) n xs) (hn:0<n):∃g cur,a=some ⟨g,0,none⟩∧base≤g∧w.heap[g]?=some (.cells cur e (0,0)):=by
 rcases h.2 with ⟨_,h3⟩|⟨g,cap',cur,hv,hb,hh,_⟩
 ·omega
 ·simp only[Value.slice.injEq] at hv
  exact ⟨g,cur,hv.1,hb,hh⟩
theorem owns_setc {w:World} {base g n cap k:Nat} {Ms:List Nat} (h:w.ownsRow base 148 4 (.slice (some ⟨g,0,none⟩) n cap) n (jB Ms)) (hk:k<Ms.length):SetC w g (k*4) (Ms[k]?.getD 0):=by
 rcases h.2 with ⟨h2,_⟩|⟨g',cap',cur,hv,hb,hh,hnc,hm,hs,ht⟩
 ·cases h2
 ·simp only[Value.slice.injEq,Option.some.injEq,Addr.mk.injEq,true_and,and_true] at hv
  obtain ⟨rfl,rfl⟩:=hv
  intro q hq
  have hl:=h.1
  rw[setsL_len] at hl
  have h4:=setsL_get Ms k q hk hq
  rw[← ht,List.getElem?_take,if_pos (by omega)] at h4
  rw[cell_of_row w g _ cur _ (0,0) hh]
  simpa using h4
theorem size_u (M:Nat) (w:World):Calls Tryz.prog 239 #[.agg #[.int .u64 ((ze (M) 0:Nat):Int),.int .u64 ((ze (M) 1:Nat):Int),.int .u64 ((ze (M) 2:Nat):Int),.int .u64 ((ze (M) 3:Nat):Int)]] w fun e w'=>e = .returned (.int .i64 (sizeM M:Nat))∧Below w.heap.size w w':=size_c M w
theorem without_u (A B:Nat) (w:World):Calls Tryz.prog 241 #[.agg #[.int .u64 ((ze (A) 0:Nat):Int),.int .u64 ((ze (A) 1:Nat):Int),.int .u64 ((ze (A) 2:Nat):Int),.int .u64 ((ze (A) 3:Nat):Int)],.agg #[.int .u64 ((ze (B) 0:Nat):Int),.int .u64 ((ze (B) 1:Nat):Int),.int .u64 ((ze (B) 2:Nat):Int),.int .u64 ((ze (B) 3:Nat):Int)]] w fun e w'=>e = .returned (.agg #[.int .u64 ((ze (minus A B) 0:Nat):Int),.int .u64 ((ze (minus A B) 1:Nat):Int),.int .u64 ((ze (minus A B) 2:Nat):Int),.int .u64 ((ze (minus A B) 3:Nat):Int)])∧Below w.heap.size w w':=without_c A B w
theorem and_v (A B:Nat) (w:World):Calls Tryz.prog 220 #[.agg #[.int .u64 ((ze (A) 0:Nat):Int),.int .u64 ((ze (A) 1:Nat):Int),.int .u64 ((ze (A) 2:Nat):Int),.int .u64 ((ze (A) 3:Nat):Int)],.agg #[.int .u64 ((ze (B) 0:Nat):Int),.int .u64 ((ze (B) 1:Nat):Int),.int .u64 ((ze (B) 2:Nat):Int),.int .u64 ((ze (B) 3:Nat):Int)]] w fun e w'=>e = .returned (.agg #[.int .u64 ((ze (A &&& B) 0:Nat):Int),.int .u64 ((ze (A &&& B) 1:Nat):Int),.int .u64 ((ze (A &&& B) 2:Nat):Int),.int .u64 ((ze (A &&& B) 3:Nat):Int)])∧Below w.heap.size w w':=and_c A B w
theorem SetC.ofA {w:World} {b M:Nat} {T:TypeId} (h:w.heap[b]?=some (.cells (setA M) T (0,0))):SetC w b 0 M:=by
 intro q hq
 match q,hq with
 | 0,_=>exact zc h 0
 | 1,_=>exact zc h 1
 | 2,_=>exact zc h 2
 | 3,_=>exact zc h 3
theorem sizeM_le (M:Nat):sizeM M≤256:=by have:=sizeTo_le M 4;unfold sizeM;omega
theorem kk (M x:Nat):zJ M x≤256:=by
 rcases Nat.eq_zero_or_pos (zJ M x) with h|h
 ·omega
 ·exact (jH h).2.1
end
section
open Go Go.RowKit
attribute [local go_sem] zv
attribute [local go_sem] Oper.semAt_some
def qy:Nat→Nat
 | 0=>0
 | k+1=>qy k ||| 2 ^ k
def begM (n:Nat) (x:Int):Nat:=if 0<x then 2 ^ (x.toNat - 1) else qy n
def begTo (g:List Int) (k:Nat):List Nat:=(g.take k).map (begM g.length)
def begL (g:List Int):List Nat:=g.map (begM g.length)
theorem begTo_succ {g:List Int} {k:Nat} (h:k<g.length):begTo g (k+1)=begTo g k++[begM g.length (g[k]?.getD 0)]:=by
 unfold begTo;rw[zP g 0 k h,List.map_append];rfl
theorem fbegin_c (a:Option Addr) (n c:Nat) (cells sum:Int) (a':Option Addr) (n' c':Nat) (g:List Int) (w:World) (h':IC w a' n' g) (hn':n'≤256) (hg:∀k:Nat,0≤g[k]?.getD 0∧g[k]?.getD 0≤256) :
  Calls Tryz.prog 89 #[.agg #[.int .i64 cells,.slice a n c,.int .i64 sum,.slice a' n' c']] w fun e w'=>∃b a9 c9,e = .returned (.pointer (some ⟨b,0,none⟩))∧w'.heap[b]?=some (.cells (jY (.int .i64 cells) (.slice a n c) (.int .i64 sum) (.slice a' n' c') a9 n' c9 (qy n')) 150 (0,0))∧w.heap.size≤b∧w'.ownsRow (b+1) 148 4 (.slice a9 n' c9) n' (jB (begL g))∧Below w.heap.size w w':=by
 obtain ⟨i0,hi,hz0,hzz,hz2⟩:=info_parts infoSet
 have hgl:=za h'.len
 have HG:=za hg
 clear hg
 go_enter Tryz.func89,Tryz.ntmps89
 go_wp2_with fail
 have fsz:((w.alloc (.cells #[.int .i64 cells,.slice a n c,.int .i64 sum,.slice a' n' c'] 27)).alloc (.cells #[.int .i64 cells,.slice a n c,.int .i64 sum,.slice a' n' c',.slice none 0 0,.int .u64 0,.int .u64 0,.int .u64 0,.int .u64 0] 150)).heap.size=w.heap.size+2:=by simp only[World.size_alloc] <;> omega
 have fB:Below w.heap.size w ((w.alloc (.cells #[.int .i64 cells,.slice a n c,.int .i64 sum,.slice a' n' c'] 27)).alloc (.cells #[.int .i64 cells,.slice a n c,.int .i64 sum,.slice a' n' c',.slice none 0 0,.int .u64 0,.int .u64 0,.int .u64 0,.int .u64 0] 150)):=((Below.refl _ _).alloc (Nat.le_refl _) _).alloc (by simp only[World.size_alloc];omega) _
 have fq0:((w.alloc (.cells #[.int .i64 cells,.slice a n c,.int .i64 sum,.slice a' n' c'] 27)).alloc (.cells #[.int .i64 cells,.slice a n c,.int .i64 sum,.slice a' n' c',.slice none 0 0,.int .u64 0,.int .u64 0,.int .u64 0,.int .u64 0] 150)).heap[w.heap.size]?=some (.cells #[.int .i64 cells,.slice a n c,.int .i64 sum,.slice a' n' c'] 27 (0,0)):=by have h:=World.alloc_heap_new w (.cells #[.int .i64 cells,.slice a n c,.int .i64 sum,.slice a' n' c'] 27);exact (Below.heap_alloc _ _ _ (by simp only[World.size_alloc];omega)).trans (h)
 have fq1:((w.alloc (.cells #[.int .i64 cells,.slice a n c,.int .i64 sum,.slice a' n' c'] 27)).alloc (.cells #[.int .i64 cells,.slice a n c,.int .i64 sum,.slice a' n' c',.slice none 0 0,.int .u64 0,.int .u64 0,.int .u64 0,.int .u64 0] 150)).heap[w.heap.size+1]?=some (.cells #[.int .i64 cells,.slice a n c,.int .i64 sum,.slice a' n' c',.slice none 0 0,.int .u64 0,.int .u64 0,.int .u64 0,.int .u64 0] 150 (0,0)):=by have h:=World.alloc_heap_new (w.alloc (.cells #[.int .i64 cells,.slice a n c,.int .i64 sum,.slice a' n' c'] 27)) (.cells #[.int .i64 cells,.slice a n c,.int .i64 sum,.slice a' n' c',.slice none 0 0,.int .u64 0,.int .u64 0,.int .u64 0,.int .u64 0] 150);simp only[World.size_alloc] at h;exact h
 generalize ((w.alloc (.cells #[.int .i64 cells,.slice a n c,.int .i64 sum,.slice a' n' c'] 27)).alloc (.cells #[.int .i64 cells,.slice a n c,.int .i64 sum,.slice a' n' c',.slice none 0 0,.int .u64 0,.int .u64 0,.int .u64 0,.int .u64 0] 150))=W0 at fsz fB fq0 fq1 ⊢
 have H':=za h'
 have HSZ:=za fsz
 have fsz':w.heap.size+1<W0.heap.size:=by omega
 clear fsz h'
 have hbo:W0.heap[w.heap.size+1]?=some (.cells (jY (.int .i64 cells) (.slice a n c) (.int .i64 sum) (.slice a' n' c') none 0 0 (qy 0)) 150 (0,0)):=by
  rw[fq1];simp[jY,qy,ze]
 have HQ0:=za fq0
 have z3:W0.cell? ⟨w.heap.size,3,none⟩=some (.slice a' n' c'):=zc fq0 3
 clear fq0 fq1
 go_wp2_with fail
 go_loopw [4,14] (fun _ i wr=>∃k:Nat,k≤n'∧i = .int .i64 k∧Hid (wr.heap[w.heap.size]?=some (.cells #[.int .i64 cells,.slice a n c,.int .i64 sum,.slice a' n' c'] 27 (0,0)))∧Hid (wr.heap[w.heap.size+1]?=some (.cells (jY (.int .i64 cells) (.slice a n c) (.int .i64 sum) (.slice a' n' c') none 0 0 (qy k)) 150 (0,0)))∧Below w.heap.size w wr) (fun _ i _=>n' - (intOf i).toNat)
 case atStart=>exact ⟨0,by omega,rfl,HQ0.out,hbo,fB⟩
 case round =>
  obtain ⟨k,hk,rfl,hq0,hq1,hbr⟩:=hrel
  have hl1:=zy hq1.out
  by_cases hlt:k<n'
  ·have HP:=za (sput_c (w.heap.size+1) 5 (qy k) ((k:Int)+1) wr (SetC.board hq1.out) (by omega) (by omega) hl1 (fun q _=>zo hq1.out _))
   have e1:((k:Int)+1).toNat - 1=k:=by omega
   rw[e1] at HP
   go_wp2_with fail
   refine HP.out.mono ?_
   rintro _ w2 ⟨rfl,hp⟩
   go_wp2_with fail
   go_roundw
   case rel=>exact ⟨k+1,by omega,by go_num,by
    have:=hp.below.block w.heap.size (by omega)
    exact this.trans hq0.out,hp.board hq1.out,hbr.trans (hp.below.mono (by omega))⟩
   case measure=>simp[intOf];omega
  ·have e:k=n':=by omega
   subst e
   clear z3
   have z3:wr.cell? ⟨w.heap.size,3,none⟩=some (.slice a' k c'):=zc hq0.out 3
   have hl0:w.heap.size<wr.heap.size:=by omega
   clear hbo
   go_wp2_with fail
   go_loopw [6,7,27] (fun _ _ i wv=>∃(j:Nat) (a9:Option Addr) (c9:Nat),j≤k∧i = .int .i64 j∧Hid (wv.heap[w.heap.size+1]?=some (.cells (jY (.int .i64 cells) (.slice a n c) (.int .i64 sum) (.slice a' k c') a9 j c9 (qy k)) 150 (0,0)))∧wv.ownsRow (w.heap.size+2) 148 4 (.slice a9 j c9) j (jB (begTo g j))∧Below w.heap.size w wv) (fun _ _ i _=>k - (intOf i).toNat)
   case atStart=>exact ⟨0,none,0,by omega,rfl,hq1.out,World.ownsRow_nil _ _ _ _,hbr⟩
   case round =>
    obtain ⟨j,a9,c9,hj,rfl,hqb,hown,hbj⟩:=hrel
    have hlb:=zy hqb.out
    by_cases hltj:j<k
    ·obtain ⟨bg,og,rfl,hbg,hcg⟩:=(H'.out.mono hbj).2 j hltj
     have hnum:=HG.out j
     have HS:=za (begTo_succ (g:=g) (k:=j) (by rw[hgl.out];exact hltj))
     rw[hgl.out] at HS
     generalize g[j]?.getD 0=x at hcg hnum HS
     have c4:wr.cell? ⟨w.heap.size+1,4,none⟩=some (.slice a9 j c9):=zc hqb.out 4
     have c5:wr.cell? ⟨w.heap.size+1,5,none⟩=some (.int .u64 ((ze (qy k) 0:Nat):Int)):=zc hqb.out 5
     have c6:wr.cell? ⟨w.heap.size+1,6,none⟩=some (.int .u64 ((ze (qy k) 1:Nat):Int)):=zc hqb.out 6
     have c7:wr.cell? ⟨w.heap.size+1,7,none⟩=some (.int .u64 ((ze (qy k) 2:Nat):Int)):=zc hqb.out 7
     have c8:wr.cell? ⟨w.heap.size+1,8,none⟩=some (.int .u64 ((ze (qy k) 3:Nat):Int)):=zc hqb.out 8
     by_cases hx:0<x
     ·have hM:begM k x=2 ^ (x.toNat - 1):=by unfold begM;rw[if_pos hx]
      rw[hM] at HS
      clear hM
      go_wp2_with fail
      have gsz:(wr.alloc (.cells #[.int .u64 0,.int .u64 0,.int .u64 0,.int .u64 0] 148)).heap.size=wr.heap.size+1:=by simp only[World.size_alloc]
      have gB:Below wr.heap.size wr (wr.alloc (.cells #[.int .u64 0,.int .u64 0,.int .u64 0,.int .u64 0] 148)):=(Below.refl _ _).alloc (Nat.le_refl _) _
      have gq0:(wr.alloc (.cells #[.int .u64 0,.int .u64 0,.int .u64 0,.int .u64 0] 148)).heap[wr.heap.size]?=some (.cells #[.int .u64 0,.int .u64 0,.int .u64 0,.int .u64 0] 148 (0,0)):=by have h:=World.alloc_heap_new wr (.cells #[.int .u64 0,.int .u64 0,.int .u64 0,.int .u64 0] 148);exact h
      generalize (wr.alloc (.cells #[.int .u64 0,.int .u64 0,.int .u64 0,.int .u64 0] 148))=W1 at gsz gB gq0 ⊢
      replace gq0:W1.heap[wr.heap.size]?=some (.cells (setA 0) 148 (0,0)):=by rw[gq0,zeroA]
      have HP:=za (sput_c wr.heap.size 0 0 x W1 (SetC.ofA gq0) (by omega) (by omega) (zy gq0) (fun q _=>zo gq0 _))
      rw[Nat.zero_or] at HP
      have HG0:=za gq0
      have HGSZ:=za gsz
      clear gq0 gsz
      refine HP.out.mono ?_
      rintro _ w2 ⟨rfl,hp⟩
      have HPB:=za (PutW.setA HG0.out hp)
      have hBW:Below wr.heap.size wr w2:=gB.trans hp.below
      have HQB:=za (zm hBW hqb.out)
      have hown2:w2.ownsRow (w.heap.size+2) 148 4 (.slice a9 j c9) j (jB (begTo g j)):=zw hown (fun i e hl=>hBW.block i hl)
      have hownW:w2.ownsRow 0 148 4 (.slice a9 j c9) j (jB (begTo g j)):=zI hown2 (by omega)
      generalize 2 ^ (x.toNat - 1)=D at *
      clear c4 c5 c6 c7 c8 hown hcg
      go_wp2_with fail
      have d4:w2.cell? ⟨w.heap.size+1,4,none⟩=some (.slice a9 j c9):=zc HQB.out 4
      have s0:(w2).cell? ⟨wr.heap.size,0,none⟩=some (.int .u64 ((ze (D) 0:Nat):Int)):=zc (HPB.out) 0
      have s1:(w2).cell? ⟨wr.heap.size,1,none⟩=some (.int .u64 ((ze (D) 1:Nat):Int)):=zc (HPB.out) 1
      have s2:(w2).cell? ⟨wr.heap.size,2,none⟩=some (.int .u64 ((ze (D) 2:Nat):Int)):=zc (HPB.out) 2
      have s3:(w2).cell? ⟨wr.heap.size,3,none⟩=some (.int .u64 ((ze (D) 3:Nat):Int)):=zc (HPB.out) 3
      have sl:=zy (HPB.out)
      have hszW:=zy HPB.out
      have hszB:=zy HQB.out
      have hszR:=hBW.size
      refine qp (fun w'=>∃u,w'=over (w2) u) [0,1,2,3] [7,8,9,10] [(0,4),(0,5),(1,6),(2,7),(2,8),(2,9),(2,10)] (by kernel_rfl) (by kernel_rfl) (by exact ⟨_,zi (by repeat (first|assumption|exact Below.refl _ _|refine zd ?_|refine zg ?_ _|refine zb ?_ (by assumption)))⟩) ?_
      dsimp only[pickF,zG]
      repeat (first|(refine wpF_skip rfl (fun K hK=>?_);go_big_quiet_op;refine hK _ ?_;clear hK K)|(refine kc rfl rfl (fun K hK=>?_);go_big_quiet_op;refine hK _ ?_;clear hK K))
      refine wpF_end ?_
      dsimp only[zt,zG]
      repeat (first|(refine zu rfl (fun K hK=>?_);go_big_quiet_op;refine hK _ ?_;clear hK K)|(refine zp rfl rfl (fun K hK=>?_);go_big_quiet_op;refine hK _ ?_;clear hK K)|(refine zE ?_;go_wp2_with ((at_builtin;refine zW _ rfl _ _ 145 rfl 148 i0 (.agg #[.int .u64 0,.int .u64 0,.int .u64 0,.int .u64 0]) 4 32 Tryz.underlying145 hi hz0 hzz hz2 rfl (by decide) _ _ _ rfl (owns_drew (hownW.alloc _)) ⟨w2.heap.size,0,none⟩ 1 1 (setA (D)).toList rfl rfl (cell_new4d _ _ _ _ _ _) (by simp[setA,Value.oneCell']) (by unfold maxLen;omega) (by omega) ?_;intro v' w9 hown' hgrow hnew;obtain ⟨av,cv,rfl⟩:=zM hown';have hst9:=grow_s hgrow;have q9:=je hst9 HQB.out (fun e=>by have:=zL hown2 e;omega);have x9:=zc q9 4;have f9:=zo q9 4));refine ⟨?_,?_⟩;focus (exact ⟨_,zi (by repeat (first|assumption|exact Below.refl _ _|refine zd ?_|refine zg ?_ _|refine zb ?_ (by assumption)))⟩)))
      refine zA _ _ _ rfl ?_
      dsimp only[List.map]
      go_wp2_with ((at_builtin;refine zW _ rfl _ _ 145 rfl 148 i0 (.agg #[.int .u64 0,.int .u64 0,.int .u64 0,.int .u64 0]) 4 32 Tryz.underlying145 hi hz0 hzz hz2 rfl (by decide) _ _ _ rfl (owns_drew (hownW.alloc _)) ⟨w2.heap.size,0,none⟩ 1 1 (setA (D)).toList rfl rfl (cell_new4d _ _ _ _ _ _) (by simp[setA,Value.oneCell']) (by unfold maxLen;omega) (by omega) ?_;intro v' w9 hown' hgrow hnew;obtain ⟨av,cv,rfl⟩:=zM hown';have hst9:=grow_s hgrow;have q9:=je hst9 HQB.out (fun e=>by have:=zL hown2 e;omega);have x9:=zc q9 4;have f9:=zo q9 4))
      refine NoPanic.normal ?_
      have r9:=zC (i:=4) q9 (.slice av (j+1) cv)
      rw[boardA_set] at r9
      have hown9:w9.ownsRow (w.heap.size+2) 148 4 (.slice av (j+1) cv) (j+1) (jB (begTo g (j+1))):=by
       rw[HS.out,setsL_snoc]
       exact owns_up hown' (fun i e=>(hnew i e).elim (fun e2=>zL hown2 e2) (fun e2=>by have:=hbj.size;simp at e2;omega))
      have hB9:Below w.heap.size w w9:=hbj.trans ((hBW.mono (by omega)).trans (hst9.below (B:=w.heap.size) (by omega) (fun i e=>by have:=zL hown2 e;omega)))
      have HR9:=za r9
      clear d4 s0 s1 s2 s3 x9 f9 q9 r9 hown' hgrow hnew
      go_wp2_with fail
      go_roundw
      case rel=>exact ⟨j+1,av,cv,by omega,by go_num,HR9.out,zw hown9 (fun i e _=>Below.heap_setCell _ _ _ _ (fun e2=>by have:=zL hown9 e;simp at e2;omega)),(hB9.setCell (p:=⟨w.heap.size+1,4,none⟩) (by show w.heap.size≤w.heap.size+1;omega) _)⟩
      case measure=>simp[intOf];omega
     ·have hM:begM k x=qy k:=by unfold begM;rw[if_neg hx]
      rw[hM] at HS
      clear hM
      obtain ⟨D,hD⟩:∃D,qy k=D:=⟨_,rfl⟩
      have HD9:=za hD
      rw[hD] at c5 c6 c7 c8 HS
      clear hD
      go_wp2_with fail
      have gsz:(wr.alloc (.cells #[.int .u64 ((ze D 0:Nat):Int),.int .u64 ((ze D 1:Nat):Int),.int .u64 ((ze D 2:Nat):Int),.int .u64 ((ze D 3:Nat):Int)] 148)).heap.size=wr.heap.size+1:=by simp only[World.size_alloc]
      have gB:Below wr.heap.size wr (wr.alloc (.cells #[.int .u64 ((ze D 0:Nat):Int),.int .u64 ((ze D 1:Nat):Int),.int .u64 ((ze D 2:Nat):Int),.int .u64 ((ze D 3:Nat):Int)] 148)):=(Below.refl _ _).alloc (Nat.le_refl _) _
      have gq0:(wr.alloc (.cells #[.int .u64 ((ze D 0:Nat):Int),.int .u64 ((ze D 1:Nat):Int),.int .u64 ((ze D 2:Nat):Int),.int .u64 ((ze D 3:Nat):Int)] 148)).heap[wr.heap.size]?=some (.cells #[.int .u64 ((ze D 0:Nat):Int),.int .u64 ((ze D 1:Nat):Int),.int .u64 ((ze D 2:Nat):Int),.int .u64 ((ze D 3:Nat):Int)] 148 (0,0)):=by have h:=World.alloc_heap_new wr (.cells #[.int .u64 ((ze D 0:Nat):Int),.int .u64 ((ze D 1:Nat):Int),.int .u64 ((ze D 2:Nat):Int),.int .u64 ((ze D 3:Nat):Int)] 148);exact h
      generalize (wr.alloc (.cells #[.int .u64 ((ze D 0:Nat):Int),.int .u64 ((ze D 1:Nat):Int),.int .u64 ((ze D 2:Nat):Int),.int .u64 ((ze D 3:Nat):Int)] 148))=w2 at gsz gB gq0 ⊢
      replace gq0:w2.heap[wr.heap.size]?=some (.cells (setA D) 148 (0,0)):=gq0
      have HPB:=za gq0
      have hBW:Below wr.heap.size wr w2:=gB
      have HQB:=za (zm hBW hqb.out)
      have hown2:w2.ownsRow (w.heap.size+2) 148 4 (.slice a9 j c9) j (jB (begTo g j)):=zw hown (fun i e hl=>hBW.block i hl)
      have hownW:w2.ownsRow 0 148 4 (.slice a9 j c9) j (jB (begTo g j)):=zI hown2 (by omega)
      clear c4 c5 c6 c7 c8 hown hcg gq0 gsz
      have d4:w2.cell? ⟨w.heap.size+1,4,none⟩=some (.slice a9 j c9):=zc HQB.out 4
      have s0:(w2).cell? ⟨wr.heap.size,0,none⟩=some (.int .u64 ((ze (D) 0:Nat):Int)):=zc (HPB.out) 0
      have s1:(w2).cell? ⟨wr.heap.size,1,none⟩=some (.int .u64 ((ze (D) 1:Nat):Int)):=zc (HPB.out) 1
      have s2:(w2).cell? ⟨wr.heap.size,2,none⟩=some (.int .u64 ((ze (D) 2:Nat):Int)):=zc (HPB.out) 2
      have s3:(w2).cell? ⟨wr.heap.size,3,none⟩=some (.int .u64 ((ze (D) 3:Nat):Int)):=zc (HPB.out) 3
      have sl:=zy (HPB.out)
      have hszW:=zy HPB.out
      have hszB:=zy HQB.out
      have hszR:=hBW.size
      refine qp (fun w'=>∃u,w'=over (w2) u) [0,1,2,3] [7,8,9,10] [(0,4),(0,5),(1,6),(2,7),(2,8),(2,9),(2,10)] (by kernel_rfl) (by kernel_rfl) (by exact ⟨_,zi (by repeat (first|assumption|exact Below.refl _ _|refine zd ?_|refine zg ?_ _|refine zb ?_ (by assumption)))⟩) ?_
      dsimp only[pickF,zG]
      repeat (first|(refine wpF_skip rfl (fun K hK=>?_);go_big_quiet_op;refine hK _ ?_;clear hK K)|(refine kc rfl rfl (fun K hK=>?_);go_big_quiet_op;refine hK _ ?_;clear hK K))
      refine wpF_end ?_
      dsimp only[zt,zG]
      repeat (first|(refine zu rfl (fun K hK=>?_);go_big_quiet_op;refine hK _ ?_;clear hK K)|(refine zp rfl rfl (fun K hK=>?_);go_big_quiet_op;refine hK _ ?_;clear hK K)|(refine zE ?_;go_wp2_with ((at_builtin;refine zW _ rfl _ _ 145 rfl 148 i0 (.agg #[.int .u64 0,.int .u64 0,.int .u64 0,.int .u64 0]) 4 32 Tryz.underlying145 hi hz0 hzz hz2 rfl (by decide) _ _ _ rfl (owns_drew (hownW.alloc _)) ⟨w2.heap.size,0,none⟩ 1 1 (setA (D)).toList rfl rfl (cell_new4d _ _ _ _ _ _) (by simp[setA,Value.oneCell']) (by unfold maxLen;omega) (by omega) ?_;intro v' w9 hown' hgrow hnew;obtain ⟨av,cv,rfl⟩:=zM hown';have hst9:=grow_s hgrow;have q9:=je hst9 HQB.out (fun e=>by have:=zL hown2 e;omega);have x9:=zc q9 4;have f9:=zo q9 4));refine ⟨?_,?_⟩;focus (exact ⟨_,zi (by repeat (first|assumption|exact Below.refl _ _|refine zd ?_|refine zg ?_ _|refine zb ?_ (by assumption)))⟩)))
      refine zA _ _ _ rfl ?_
      dsimp only[List.map]
      go_wp2_with ((at_builtin;refine zW _ rfl _ _ 145 rfl 148 i0 (.agg #[.int .u64 0,.int .u64 0,.int .u64 0,.int .u64 0]) 4 32 Tryz.underlying145 hi hz0 hzz hz2 rfl (by decide) _ _ _ rfl (owns_drew (hownW.alloc _)) ⟨w2.heap.size,0,none⟩ 1 1 (setA (D)).toList rfl rfl (cell_new4d _ _ _ _ _ _) (by simp[setA,Value.oneCell']) (by unfold maxLen;omega) (by omega) ?_;intro v' w9 hown' hgrow hnew;obtain ⟨av,cv,rfl⟩:=zM hown';have hst9:=grow_s hgrow;have q9:=je hst9 HQB.out (fun e=>by have:=zL hown2 e;omega);have x9:=zc q9 4;have f9:=zo q9 4))
      refine NoPanic.normal ?_
      have r9:=zC (i:=4) q9 (.slice av (j+1) cv)
      rw[boardA_set] at r9
      have hown9:w9.ownsRow (w.heap.size+2) 148 4 (.slice av (j+1) cv) (j+1) (jB (begTo g (j+1))):=by
       rw[HS.out,setsL_snoc]
       exact owns_up hown' (fun i e=>(hnew i e).elim (fun e2=>zL hown2 e2) (fun e2=>by have:=hbj.size;simp at e2;omega))
      have hB9:Below w.heap.size w w9:=hbj.trans ((hBW.mono (by omega)).trans (hst9.below (B:=w.heap.size) (by omega) (fun i e=>by have:=zL hown2 e;omega)))
      have HR9:=za r9
      clear d4 s0 s1 s2 s3 x9 f9 q9 r9 hown' hgrow hnew
      go_wp2_with fail
      go_roundw
      case rel=>exact ⟨j+1,av,cv,by omega,by go_num,HR9.out,zw hown9 (fun i e _=>Below.heap_setCell _ _ _ _ (fun e2=>by have:=zL hown9 e;simp at e2;omega)),(hB9.setCell (p:=⟨w.heap.size+1,4,none⟩) (by show w.heap.size≤w.heap.size+1;omega) _)⟩
      case measure=>simp[intOf];omega
    ·have e:j=k:=by omega
     subst e
     go_wp2_with fail
     go_ret
     refine ⟨w.heap.size+1,a9,c9,rfl,hqb.out,by omega,?_,hbj⟩
     have:begTo g j=begL g:=by unfold begTo begL;rw[List.take_of_length_le (by rw[hgl.out];omega)]
     rw[← this]
     exact hown
end
section
open Go Go.RowKit
def findN {α:Type} (n:Nat) (f:Nat→Option α):Option α:=(List.range n).findSome? f
theorem findN_none {α:Type} {n:Nat} {f:Nat→Option α} (h:∀j,j<n→f j=none):findN n f=none:=by
 unfold findN
 rw[List.findSome?_eq_none_iff]
 exact fun j hj=>h j (by simpa using hj)
theorem qF {α:Type} {n k:Nat} {f:Nat→Option α} {v:α} (h:∀j,j<k→f j=none) (hk:k<n) (hv:f k=some v):findN n f=some v:=by
 induction n with
 | zero=>omega
 | succ n ih =>
  unfold findN at *
  rw[List.range_succ,List.findSome?_append]
  rcases Nat.lt_or_ge k n with h1|h1
  ·rw[ih h1];rfl
  ·have e:k=n:=by omega
   subst e
   have:=findN_none (f:=f) h
   unfold findN at this
   rw[this]
   simp[hv]
theorem qO {α:Type} {n:Nat} {f:Nat→Option α} {v:α} (h:findN n f=some v):∃k,k<n∧f k=some v:=by
 unfold findN at h
 obtain ⟨k,hk,hv⟩:=List.exists_of_findSome?_eq_some h
 exact ⟨k,by simpa using hk,hv⟩
abbrev Rem:=Nat × Nat × Nat × Int
def ruleS:Nat→Value
 | 0 => .string ⟨#[111,110,99,101]⟩
 | 1 => .string ⟨#[108,105,110,101]⟩
 | _ => .string ⟨#[112,108,97,99,101]⟩
def remV (r:Rem):Value := .agg #[ruleS r.1,.int .i64 r.2.1,.int .i64 r.2.2.1,.int .i64 r.2.2.2]
def optV:Option Rem→Value
 | some r=>remV r
 | none => .agg #[.string ⟨#[]⟩,.int .i64 0,.int .i64 0,.int .i64 0]
def qj (Ms:List Nat):List Nat:=Ms.filter fun s=>sizeM s==1
def oneM (Ms:List Nat):Nat:=qd (qj Ms) (qj Ms).length
def twoM (Ms:List Nat):Nat:=jV (qj Ms) (qj Ms).length
def onceF (one two s:Nat):Nat:=zJ (if sizeM s=1 then s &&& two else s &&& one) 0
def onceAt (one two:Nat) (Ms:List Nat) (c:Nat):Option Rem:=if 0<onceF one two (Ms[c]?.getD 0) then some (0,c,onceF one two (Ms[c]?.getD 0),-1) else none
def onceR (Ms:List Nat):Option Rem:=findN Ms.length (onceAt (oneM Ms) (twoM Ms) Ms)
def aloneM (Ms:List Nat):Nat:=minus (qd Ms Ms.length) (jV Ms Ms.length)
def placeF (alone s:Nat):Nat:=if sizeM (s &&& alone)=0 then 0 else if sizeM (s &&& alone)=1 then zJ (minus s (s &&& alone)) 0 else zJ s 0
def placeAt (alone:Nat) (Ms:List Nat) (c:Nat):Option Rem:=if 0<placeF alone (Ms[c]?.getD 0) then some (2,c,placeF alone (Ms[c]?.getD 0),-1) else none
def placeR (Ms:List Nat):Option Rem:=findN Ms.length (placeAt (aloneM Ms) Ms)
def lowTo (Ms:List Nat) (l:List Int):Nat→Nat
 | 0=>0
 | j+1=>lowTo Ms l j+zJ (Ms[(l[j]?.getD 0).toNat]?.getD 0) 0
def highTo (Ms:List Nat) (l:List Int):Nat→Nat
 | 0=>0
 | j+1=>highTo Ms l j+greatM (Ms[(l[j]?.getD 0).toNat]?.getD 0)
def lineF (sum:Int) (low high s:Nat):Nat :=
 if sum - ((high:Int) - greatM s)≤zJ s 0 then zJ s (max (sum - ((low:Int) - zJ s 0)) 0).toNat else zJ s 0
def lineAt (sum:Int) (low high:Nat) (Ms:List Nat) (k:Nat) (l:List Int) (j:Nat):Option Rem :=
 if 0<lineF sum low high (Ms[(l[j]?.getD 0).toNat]?.getD 0) then some (1,(l[j]?.getD 0).toNat,lineF sum low high (Ms[(l[j]?.getD 0).toNat]?.getD 0),k) else none
def lineK (sum:Int) (Ms:List Nat) (l:List Int) (k:Nat):Option Rem:=findN l.length (lineAt sum (lowTo Ms l l.length) (highTo Ms l l.length) Ms k l)
def lineR (ls:List (List Int)) (sum:Int) (Ms:List Nat):Option Rem:=findN ls.length fun k=>lineK sum Ms (ls[k]?.getD []) k
def qS (ls:List (List Int)) (sum:Int) (M:Nat) (Ms:List Nat):Option Rem :=
 if contraB Ms M=true then none else match onceR Ms with
  | some r=>some r
  | none=>match lineR ls sum Ms with
   | some r=>some r
   | none=>placeR Ms
def dropR (Ms:List Nat) (r:Rem):List Nat:=Ms.set r.2.1 (qE (Ms[r.2.1]?.getD 0) (r.2.2.1 - 1))
def jh (ls:List (List Int)) (sum:Int) (M:Nat):Nat→List Nat→List Rem × List Nat
 | 0,Ms=>([],Ms)
 | k+1,Ms=>match qS ls sum M Ms with
  | none=>([],Ms)
  | some r=>(r :: (jh ls sum M k (dropR Ms r)).1,(jh ls sum M k (dropR Ms r)).2)
theorem iterR_stop {ls:List (List Int)} {sum:Int} {M:Nat}:∀(k:Nat) (Ms:List Nat),qS ls sum M Ms=none→jh ls sum M k Ms=([],Ms)
 | 0,_,_=>rfl
 | k+1,Ms,h=>by simp only[jh,h]
theorem iterR_snoc {ls:List (List Int)} {sum:Int} {M:Nat} {r:Rem}:∀(k:Nat) (Ms:List Nat),qS ls sum M (jh ls sum M k Ms).2=some r→jh ls sum M (k+1) Ms=((jh ls sum M k Ms).1++[r],dropR (jh ls sum M k Ms).2 r)
 | 0,Ms,h=>by
  simp only[jh] at h ⊢
  rw[h]
  rfl
 | k+1,Ms,h=>by
  cases hs:qS ls sum M Ms with
  | none=>rw[iterR_stop (k+1) Ms hs] at h;simp only at h;rw[hs] at h;cases h
  | some r0 =>
   have h1:jh ls sum M (k+1) Ms=(r0 :: (jh ls sum M k (dropR Ms r0)).1,(jh ls sum M k (dropR Ms r0)).2):=by simp only[jh,hs]
   rw[h1] at h ⊢
   have h2:=iterR_snoc k (dropR Ms r0) h
   have h3:jh ls sum M (k+1+1) Ms=(r0 :: (jh ls sum M (k+1) (dropR Ms r0)).1,(jh ls sum M (k+1) (dropR Ms r0)).2):=by simp only[jh,hs]
   rw[h3,h2]
   rfl
theorem iterR_end {ls:List (List Int)} {sum:Int} {M:Nat}:∀(k d:Nat) (Ms:List Nat),qS ls sum M (jh ls sum M k Ms).2=none→jh ls sum M (k+d) Ms=jh ls sum M k Ms
 | 0,d,Ms,h=>by simp only[jh] at h ⊢;exact iterR_stop _ _ h
 | k+1,d,Ms,h=>by
  cases hs:qS ls sum M Ms with
  | none=>rw[iterR_stop _ _ hs,iterR_stop _ _ hs]
  | some r0 =>
   have h1:∀m,jh ls sum M (m+1) Ms=(r0 :: (jh ls sum M m (dropR Ms r0)).1,(jh ls sum M m (dropR Ms r0)).2):=fun m=>by simp only[jh,hs]
   rw[h1] at h
   have:=iterR_end k d (dropR Ms r0) h
   rw[show k+1+d=(k+d)+1 from by omega,h1,h1,this]
theorem iterR_uniq {ls:List (List Int)} {sum:Int} {M k j:Nat} {Ms:List Nat} (h:qS ls sum M (jh ls sum M k Ms).2=none) (h':qS ls sum M (jh ls sum M j Ms).2=none):jh ls sum M k Ms=jh ls sum M j Ms:=by
 have h1:=iterR_end k j Ms h
 have h2:=iterR_end j k Ms h'
 rw[Nat.add_comm] at h2
 rw[← h1,h2]
def RemOk (Ms:List Nat) (r:Rem):Prop:=r.2.1<Ms.length∧1≤r.2.2.1∧r.2.2.1≤256∧(Ms[r.2.1]?.getD 0).testBit (r.2.2.1 - 1)=true
theorem onceR_ok {Ms:List Nat} {r:Rem} (h:onceR Ms=some r):RemOk Ms r:=by
 obtain ⟨c,hc,h1⟩:=qO h
 unfold onceAt at h1
 split at h1
 ·rename_i h0
  cases h1
  have hs:=jH h0
  refine ⟨hc,h0,hs.2.1,?_⟩
  have:=hs.2.2
  show (Ms[c]?.getD 0).testBit (onceF (oneM Ms) (twoM Ms) (Ms[c]?.getD 0) - 1)=true
  unfold onceF
  split at this
  ·rename_i e
   rw[if_pos e]
   simp only[Nat.testBit_and,Bool.and_eq_true] at this
   exact this.1
  ·rename_i e
   rw[if_neg e]
   simp only[Nat.testBit_and,Bool.and_eq_true] at this
   exact this.1
 ·cases h1
theorem placeR_ok {Ms:List Nat} {r:Rem} (h:placeR Ms=some r):RemOk Ms r:=by
 obtain ⟨c,hc,h1⟩:=qO h
 unfold placeAt at h1
 split at h1
 ·rename_i h0
  cases h1
  show RemOk Ms (2,c,placeF (aloneM Ms) (Ms[c]?.getD 0),-1)
  generalize aloneM Ms=al at h0 ⊢
  unfold placeF at h0 ⊢
  generalize he:Ms[c]?.getD 0=s at h0 ⊢
  by_cases e0:sizeM (s &&& al)=0
  ·simp[e0] at h0
  ·by_cases e1:sizeM (s &&& al)=1
   ·rw[if_neg e0,if_pos e1] at h0 ⊢
    have hs:=jH h0
    refine ⟨hc,h0,hs.2.1,?_⟩
    have:=hs.2.2
    rw[testBit_minus,Bool.and_eq_true] at this
    rw[he]
    exact this.1
   ·rw[if_neg e0,if_neg e1] at h0 ⊢
    have hs:=jH h0
    exact ⟨hc,h0,hs.2.1,by rw[he];exact hs.2.2⟩
 ·cases h1
theorem lineR_ok {ls:List (List Int)} {sum:Int} {Ms:List Nat} {r:Rem} (hr:∀l∈ls,∀c∈l,0≤c∧c<(Ms.length:Int)) (h:lineR ls sum Ms=some r):RemOk Ms r:=by
 obtain ⟨k,hk,h1⟩:=qO h
 obtain ⟨j,hj,h2⟩:=qO h1
 have hl:ls[k]?.getD []∈ls:=by rw[List.getElem?_eq_getElem hk];exact List.getElem_mem hk
 have hc:(ls[k]?.getD [])[j]?.getD 0∈ls[k]?.getD []:=by rw[List.getElem?_eq_getElem hj];exact List.getElem_mem hj
 have hb:=hr _ hl _ hc
 generalize lowTo Ms (ls[k]?.getD []) (ls[k]?.getD []).length=low at h2
 generalize highTo Ms (ls[k]?.getD []) (ls[k]?.getD []).length=high at h2
 unfold lineAt at h2
 generalize ((ls[k]?.getD [])[j]?.getD 0)=c at *
 split at h2
 ·rename_i h0
  cases h2
  show RemOk Ms (1,c.toNat,lineF sum low high (Ms[c.toNat]?.getD 0),k)
  generalize he:Ms[c.toNat]?.getD 0=s at h0 ⊢
  unfold lineF at h0 ⊢
  split at h0
  ·rename_i e
   rw[if_pos e]
   have hs:=jH h0
   exact ⟨by show c.toNat<Ms.length;omega,h0,hs.2.1,by rw[he];exact hs.2.2⟩
  ·rename_i e
   rw[if_neg e]
   have hs:=jH h0
   exact ⟨by show c.toNat<Ms.length;omega,h0,hs.2.1,by rw[he];exact hs.2.2⟩
 ·cases h2
theorem stepR_ok {ls:List (List Int)} {sum:Int} {M:Nat} {Ms:List Nat} {r:Rem} (hr:∀l∈ls,∀c∈l,0≤c∧c<(Ms.length:Int)) (h:qS ls sum M Ms=some r):RemOk Ms r:=by
 unfold qS at h
 split at h
 ·cases h
 ·split at h
  ·rename_i r0 h0;cases h;exact onceR_ok h0
  ·split at h
   ·rename_i r0 h0;cases h;exact lineR_ok hr h0
   ·exact placeR_ok h
def candN (Ms:List Nat):Nat:=(Ms.map (qD 256)).sum
theorem cnt_le {p:Nat→Bool} {i:Nat} (l:List Nat):(l.filter fun j=>p j&&!(j==i)).length≤(l.filter p).length:=by
 induction l with
 | nil=>simp
 | cons y l ih =>
  simp only[List.filter_cons]
  cases hy:p y <;> cases hyi:(y==i) <;> simp only[Bool.false_and,Bool.true_and,Bool.not_true,Bool.not_false,if_true,Bool.false_eq_true,if_false,List.length_cons] <;> omega
theorem cnt_drop {p:Nat→Bool} {i:Nat}:∀(l:List Nat),i∈l→p i=true→(l.filter fun j=>p j&&!(j==i)).length<(l.filter p).length
 | x :: l,hm,hp=>by
  by_cases hx:x=i
  ·subst hx
   have:=cnt_le (p:=p) (i:=x) l
   simp only[List.filter_cons,hp,beq_self_eq_true,Bool.not_true,Bool.and_false,Bool.false_eq_true,if_false,if_true,List.length_cons]
   omega
  ·have hm':i∈l:=by
    rcases List.mem_cons.1 hm with e|e
    ·exact absurd e.symm hx
    ·exact e
   have ih:=cnt_drop l hm' hp
   simp only[List.filter_cons]
   have hxi:(x==i)=false:=by simpa using hx
   cases hy:p x <;> simp only[hxi,Bool.false_and,Bool.true_and,Bool.not_false,if_true,Bool.false_eq_true,if_false,List.length_cons] <;> omega
theorem cntB_clear {M i:Nat} (hi:i<256) (h:M.testBit i=true):qD 256 (qE M i)<qD 256 M:=by
 unfold qD
 have:=cnt_drop (p:=fun j=>M.testBit j) (i:=i) (List.range 256) (by simpa using hi) h
 have e:(fun j=>(qE M i).testBit j)=(fun j=>M.testBit j&&!(j==i)):=by
  funext j
  rw[testBit_clear]
  congr 1
  rw[Bool.eq_iff_iff];simp
 rw[e]
 exact this
theorem sum_set:∀(xs:List Nat) (k v:Nat),k<xs.length→(xs.set k v).sum+xs[k]?.getD 0=xs.sum+v
 | x :: r,0,v,_=>by simp;omega
 | x :: r,k+1,v,h=>by
  have:=sum_set r k v (by simpa using h)
  simp at this ⊢
  omega
theorem candN_drop {Ms:List Nat} {r:Rem} (h:RemOk Ms r):candN (dropR Ms r)<candN Ms:=by
 obtain ⟨h1,h2,h3,h4⟩:=h
 have h5:=cntB_clear (i:=r.2.2.1 - 1) (by omega) h4
 unfold candN dropR
 rw[List.map_set]
 have:=sum_set (Ms.map (qD 256)) r.2.1 (qD 256 (qE (Ms[r.2.1]?.getD 0) (r.2.2.1 - 1))) (by simpa using h1)
 rw[List.getElem?_map,List.getElem?_eq_getElem h1] at this
 rw[List.getElem?_eq_getElem h1] at h5 ⊢
 simp only[Option.map_some,Option.getD_some] at this h5 ⊢
 omega
theorem candN_le (Ms:List Nat):candN Ms≤Ms.length*256:=by
 unfold candN
 induction Ms with
 | nil=>simp
 | cons M r ih =>
  have h:qD 256 M≤256:=by unfold qD;exact Nat.le_trans (List.length_filter_le _ _) (by simp)
  simp only[List.map_cons,List.sum_cons,List.length_cons]
  omega
theorem dropR_len (Ms:List Nat) (r:Rem):(dropR Ms r).length=Ms.length:=by simp[dropR]
end
end Go.Proofs.YtaadpihbjhachaaGreat
