/- Texts I3 to J14 of this proof, in one file. -/
import Derived.Test.YtpkghjoippcjeaaW01
import Derived.Shelf.Abstract
import Derived.Maps.OwnIn
import Derived.Maps.AppendAt
import Derived.ProofKit
import Derived.SizedLaws
import Derived.Deep.Matrix
import Derived.Lib.SmallJoins
import Derived.OwnWalkIn
import Derived.OrdersIn
import Derived.RangeFuncCalls
import Derived.ChangeArms
import Derived.Maps.OwnSet
import Derived.Below
namespace Go.Proofs.Ytpkghjoippcjeaa
set_option maxRecDepth 100000
set_option maxHeartbeats 16000000
section
open Go Go.RowKit Go.Shelf
attribute [local go_sem] over_cell
attribute [local go_sem] Oper.semAt_some
theorem keepq {W W1:World} {b:Nat} {o:Obj} (hb:Below W.heap.size W W1) (h:W.heap[b]?=some o):W1.heap[b]?=some o:=(hb.block b (Array.getElem?_eq_some_iff.1 h).1).trans h
theorem q_lt {W:World} {b:Nat} {o:Obj} (h:W.heap[b]?=some o):b<W.heap.size:=(Array.getElem?_eq_some_iff.1 h).1
theorem q_cell {W:World} {b:Nat} {vs:Array Value} {t:TypeId} (h:W.heap[b]?=some (.cells vs t (0,0))) (i:Nat):W.cell? ⟨b,i,none⟩=vs[i]?:=by
 simp[World.cell?,h]
theorem q_free {W:World} {b:Nat} {vs:Array Value} {t:TypeId} (h:W.heap[b]?=some (.cells vs t (0,0))) (i:Nat):W.frozen? ⟨b,i,none⟩=false:=by
 simp[World.frozen?,h]
theorem q_set {W:World} {b i:Nat} {vs:Array Value} {t:TypeId} (h:W.heap[b]?=some (.cells vs t (0,0))) (u:Value):(W.setCell ⟨b,i,none⟩ u).heap[b]?=some (.cells (vs.setIfInBounds i u) t (0,0)):=by
 have hlt:=q_lt h
 have h':W.heap[b] = .cells vs t (0,0):=by simpa [Array.getElem?_eq_getElem hlt] using h
 show (W.heap.modify b _)[b]?=_
 rw[Array.getElem?_eq_getElem (by simpa using hlt),Array.getElem_modify_self,h']
 rfl
theorem q_other {W:World} {b b' i:Nat} {o:Obj} (h:W.heap[b]?=some o) (hb:b≠b') (u:Value):(W.setCell ⟨b',i,none⟩ u).heap[b]?=some o :=
 (Below.heap_setCell _ _ _ _ hb).trans h
end
section
open Go Go.RowKit
attribute [local go_sem] over_cell
attribute [local go_sem] Oper.semAt_some
end
section
open Go Go.RowKit Go.Shelf
attribute [local go_sem] over_cell
attribute [local go_sem] Oper.semAt_some
theorem Stays.q {S:Nat→Prop} {W W':World} {b:Nat} {o:Obj} (hs:Stays S W W') (hq:W.heap[b]?=some o) (hb:¬S b):W'.heap[b]?=some o:=(hs.block b (q_lt hq) hb).trans hq
end
section
open Go Go.RowKit
theorem tmod_pos (a n:Int) (hn:1≤n) : -n<a.tmod n∧a.tmod n<n:=by
 refine ⟨?_,Int.tmod_lt_of_pos a (by omega)⟩
 have h:=Int.tmod_lt_of_pos (-a) (show 0<n by omega)
 rw[Int.neg_tmod] at h
 omega
theorem mod_val (a n:Int) (hn1:1≤n) (hn2:n≤1000000):(wrap64 (a.tmod n+n)).tmod n=a % n:=by
 obtain ⟨h1,h2⟩:=tmod_pos a n hn1
 have e:wrap64 (a.tmod n+n)=a.tmod n+n:=by unfold wrap64;omega
 rw[e,Int.tmod_eq_emod_of_nonneg (by omega),Int.add_emod_right]
 have h3:=Int.tmod_add_mul_tdiv a n
 conv=>rhs;rw[← h3]
 rw[Int.add_mul_emod_self_left]
theorem mod_c (a n:Int) (w:World) (hn1:1≤n) (hn2:n≤1000000) :
  Calls Try.prog 37 #[.int .i64 a,.int .i64 n] w fun e w'=>e = .returned (.int .i64 (a % n))∧w=w':=by
 have hn0:n≠0:=by omega
 have hn00:(n==0)=false:=by simp;omega
 have HN:=Lib.hid hn0
 clear hn0
 go_enter Try.func37,Try.ntmps37
 go_wp2
 go_ret
 exact ⟨congrArg Ending.returned (congrArg (Value.int IntKind.i64) (mod_val a n hn1 hn2)),rfl⟩
end
section
open Go Go.RowKit
section
variable {P:Program} {ops:Array Oper} {Q:Exit→Act→World→Prop} {md:Region.Mode} {S:World→Prop} {late:Nat→Bool}
theorem wpL_firstW {i:Nat} {oi:Oper} {v:Value} (hi:ops[i]?=some oi) (hsel:∀(j:Nat) (o:Oper) cs b,ops[j]?=some o→o.op ≠ .select cs b)
  (hQ:∀c a w,Q (.panic c) (a.put oi.dst v) w→Q (.panic c) a w) (hl:late i=true) :
  ∀(fuel:Nat) (listed:Array Bool) (a:Act) (w:World),Closed md ops listed →
   (∀j oj,ops[j]?=some oj→j≠i→listed.getD j true=false→(∀e∈oj.after,Region.binds md e=true→e.on≠i)→oi.apart ops oj=true) →
   i∈Region.ready md ops listed→YieldsIf P ops (fun _=>True) oi v a →
   wpL P md ops Q S late fuel (listed.setIfInBounds i true) (a.put oi.dst v) w→wpL P md ops Q S late (fuel+1) listed a w:=by
 intro fuel
 induction fuel with
 | zero =>
  intro listed a w hcl hfree hr hy H
  refine ⟨fun h=>(by rw[h] at hr;cases hr),fun j hj=>?_⟩
  by_cases hji:j=i
  ·subst hji;exact hy.wpOp hi trivial ⟨fun h=>(by rw[hl] at h;cases h),H⟩
  ·have:=ready_mono hj hji
   rw[H.1] at this
   cases this
 | succ fuel ih =>
  intro listed a w hcl hfree hr hy H
  refine ⟨fun h=>(by rw[h] at hr;cases hr),fun j hj=>?_⟩
  by_cases hji:j=i
  ·subst hji;exact hy.wpOp hi trivial ⟨fun h=>(by rw[hl] at h;cases h),H⟩
  ·have h1:=H.2 j (ready_mono hj hji)
   obtain ⟨hjun,oj,hoj,hall⟩:=mem_ready.1 hj
   have hnot:∀e∈oj.after,Region.binds md e=true→e.on≠i:=fun e he hb heq=>by
    have h1:=hall e he hb
    have h0:=(mem_ready.1 hr).1
    rw[heq] at h1
    rcases Nat.lt_or_ge i listed.size with h'|h'
    ·simp[h'] at h0 h1;rw[h0] at h1;cases h1
    ·simp[Array.getElem?_eq_none h'] at h1
   have h2:=wpOp_putIf hoj (hfree j oj hoj hji hjun hnot) (fun cs b=>hsel i oi cs b hi) (fun cs b=>hsel j oj cs b hoj) hQ hy h1
   have hfree':∀k ok,ops[k]?=some ok→k≠i→(listed.setIfInBounds j true).getD k true=false →
     (∀e∈ok.after,Region.binds md e=true→e.on≠i)→oi.apart ops ok=true:=fun k ok hk hki hun hno=>by
    refine hfree k ok hk hki ?_ hno
    by_cases hjk:j=k
    ·subst hjk;exact hjun
    ·rw[getD_set_ne true hjk] at hun;exact hun
   refine wpOp_mono (fun a' w' h3=>⟨h3.2.1,ih (listed.setIfInBounds j true) a' w' (hcl.set hj) hfree' (ready_mono hr (Ne.symm hji)) h3.1 ?_⟩) h2
   rw[Array.setIfInBounds_comm _ _ hji]
   exact h3.2.2
def Has (listed:Array Bool) (pre:List Nat):Prop:=∀p∈pre,listed.getD p false=true
theorem Has.set {listed:Array Bool} {pre:List Nat} (h:Has listed pre) (j:Nat):Has (listed.setIfInBounds j true) pre:=fun p hp=>getD_set_true (h p hp)
theorem wpL_firstP {pre:List Nat} {i:Nat} {oi:Oper} {v:Value} (hi:ops[i]?=some oi) (hsel:∀(j:Nat) (o:Oper) cs b,ops[j]?=some o→o.op ≠ .select cs b)
  (hQ:∀c a w,Q (.panic c) (a.put oi.dst v) w→Q (.panic c) a w)
  (hlate:∀j listed,Has listed pre→late j=true→Closed md ops listed→j∈Region.ready md ops listed→listed.getD i false=true) :
  ∀(fuel:Nat) (listed:Array Bool) (a:Act) (w:World),Has listed pre→Closed md ops listed →
   (∀j oj,ops[j]?=some oj→j≠i→listed.getD j true=false→(∀e∈oj.after,Region.binds md e=true→e.on≠i)→oi.apart ops oj=true) →
   i∈Region.ready md ops listed→YieldsIf P ops S oi v a→S w →
   wpL P md ops Q S late fuel (listed.setIfInBounds i true) (a.put oi.dst v) w→wpL P md ops Q S late (fuel+1) listed a w:=by
 intro fuel
 induction fuel with
 | zero =>
  intro listed a w hp hcl hfree hr hy hS H
  refine ⟨fun h=>(by rw[h] at hr;cases hr),fun j hj=>?_⟩
  by_cases hji:j=i
  ·subst hji;exact hy.wpOp hi hS ⟨fun _=>hS,H⟩
  ·have:=ready_mono hj hji
   rw[H.1] at this
   cases this
 | succ fuel ih =>
  intro listed a w hp hcl hfree hr hy hS H
  refine ⟨fun h=>(by rw[h] at hr;cases hr),fun j hj=>?_⟩
  by_cases hji:j=i
  ·subst hji;exact hy.wpOp hi hS ⟨fun _=>hS,H⟩
  ·have h1:=H.2 j (ready_mono hj hji)
   obtain ⟨hjun,oj,hoj,hall⟩:=mem_ready.1 hj
   have hnot:∀e∈oj.after,Region.binds md e=true→e.on≠i:=fun e he hb heq=>by
    have h1:=hall e he hb
    have h0:=(mem_ready.1 hr).1
    rw[heq] at h1
    rcases Nat.lt_or_ge i listed.size with h'|h'
    ·simp[h'] at h0 h1;rw[h0] at h1;cases h1
    ·simp[Array.getElem?_eq_none h'] at h1
   have hjl:late j=false:=by
    cases hl:late j with
    | false=>rfl
    | true =>
     have h1:=hlate j listed hp hl hcl hj
     have h0:=(mem_ready.1 hr).1
     rcases Nat.lt_or_ge i listed.size with h'|h'
     ·simp[h'] at h0 h1;rw[h0] at h1;cases h1
     ·simp[Array.getElem?_eq_none h'] at h1
   have h2:=wpOp_putIf hoj (hfree j oj hoj hji hjun hnot) (fun cs b=>hsel i oi cs b hi) (fun cs b=>hsel j oj cs b hoj) hQ hy h1
   have hfree':∀k ok,ops[k]?=some ok→k≠i→(listed.setIfInBounds j true).getD k true=false →
     (∀e∈ok.after,Region.binds md e=true→e.on≠i)→oi.apart ops ok=true:=fun k ok hk hki hun hno=>by
    refine hfree k ok hk hki ?_ hno
    by_cases hjk:j=k
    ·subst hjk;exact hjun
    ·rw[getD_set_ne true hjk] at hun;exact hun
   refine wpOp_mono (fun a' w' h3=>⟨h3.2.1,ih (listed.setIfInBounds j true) a' w' (hp.set j) (hcl.set hj) hfree' (ready_mono hr (Ne.symm hji)) h3.1 (h3.2.1 hjl) ?_⟩) h2
   rw[Array.setIfInBounds_comm _ _ hji]
   exact h3.2.2
def wpF (P:Program) (ops:Array Oper) (K:Act→Prop):List Oper→Act→Prop
 | [],a=>K a
 | o :: r,a=>if Region.wanted o (yielded ops a.tmps) then ∃v,(∀w',(execOp a.eval o).run P w' = .ok (.value v) w')∧wpF P ops K r (a.put o.dst v) else wpF P ops K r (a.put o.dst undef)
def pickF (l:List Oper):List Nat→List Oper
 | []=>[]
 | i :: r=>match nthOp l i with
  | some o=>o :: pickF l r
  | none=>[]
def preOk (md:Region.Mode) (ops:Array Oper):List Nat→Array Bool→Bool
 | [],_=>true
 | i :: r,listed=>(Region.ready md ops listed).contains i&&Region.free md ops listed i&&preOk md ops r (listed.setIfInBounds i true)
def preSet:List Nat→Array Bool→Array Bool
 | [],listed=>listed
 | i :: r,listed=>preSet r (listed.setIfInBounds i true)
theorem preSet_has:∀(r:List Nat) (listed:Array Bool),preOk md ops r listed=true→Has (preSet r listed) r∧∀pre,Has listed pre→Has (preSet r listed) pre
 | [],listed,_=>⟨fun p hp=>(by cases hp),fun pre h=>h⟩
 | i :: r,listed,hc=>by
  simp only[preOk,Bool.and_eq_true] at hc
  obtain ⟨⟨hr,hf⟩,hc'⟩:=hc
  have ih:=preSet_has r _ hc'
  have hi:(listed.setIfInBounds i true).getD i false=true:=by
   obtain ⟨h1,oi,hoi,_⟩:=(mem_ready (md:=md) (ops:=ops) (listed:=listed) (j:=i)).1 (by simpa using hr)
   rcases Nat.lt_or_ge i listed.size with h'|h'
   ·simp[h']
   ·simp[Array.getElem?_eq_none h'] at h1
  refine ⟨fun p hp=>?_,fun pre h=>ih.2 pre (h.set i)⟩
  rcases List.mem_cons.1 hp with e|e
  ·subst e
   exact ih.2 [p] (fun q hq=>by obtain rfl:q=p:=(by simpa using hq);exact hi) p (by simp)
  ·exact ih.1 p e
theorem wpL_of_F (hs:Region.noSelect ops=true) (hQ:∀c a d v w,Q (.panic c) (Act.put a d v) w→Q (.panic c) a w) (fuel:Nat) :
  ∀(pre:List Nat) (listed:Array Bool) (a:Act) (w:World),(∀p∈pre,late p=true)→Closed md ops listed→preOk md ops pre listed=true →
   wpF P ops (fun a'=>wpL P md ops Q S late fuel (preSet pre listed) a' w) (pickF ops.toList pre) a→wpL P md ops Q S late (fuel+pre.length) listed a w∧Closed md ops (preSet pre listed)
 | [],listed,a,w,_,hcl,_,h=>⟨h,hcl⟩
 | i :: r,listed,a,w,hl,hcl,hc,h=>by
  simp only[preOk,Bool.and_eq_true] at hc
  obtain ⟨⟨hr,hf⟩,hc'⟩:=hc
  have hr':i∈Region.ready md ops listed:=by simpa using hr
  obtain ⟨oi,hoi⟩:∃oi,ops[i]?=some oi:=by
   obtain ⟨_,oi,h1,_⟩:=(mem_ready (md:=md) (ops:=ops) (listed:=listed) (j:=i)).1 hr'
   exact ⟨oi,h1⟩
  have hp:nthOp ops.toList i=some oi:=by rw[nthOp_eq];simpa using hoi
  simp only[pickF,hp,wpF] at h
  have key:∀v,YieldsIf P ops (fun _=>True) oi v a→wpF P ops (fun a'=>wpL P md ops Q S late fuel (preSet r (listed.setIfInBounds i true)) a' w) (pickF ops.toList r) (a.put oi.dst v)→wpL P md ops Q S late (fuel+(r.length+1)) listed a w∧Closed md ops (preSet (i :: r) listed):=by
   intro v hy hK
   have ih:=wpL_of_F hs hQ fuel r _ _ w (fun p hp=>hl p (by simp[hp])) (hcl.set hr') hc' hK
   exact ⟨wpL_firstW hoi (Region.noSelect_spec hs) (fun c a' w'=>hQ c a' _ _ w') (hl i (by simp)) (fuel+r.length) listed a w hcl (Region.free_spec hoi hf) hr' hy ih.1,ih.2⟩
  by_cases hw:Region.wanted oi (yielded ops a.tmps)=true
  ·rw[if_pos hw] at h
   obtain ⟨v,hv,hK⟩:=h
   exact key v (.inl ⟨hw,fun w' _=>hv w'⟩) hK
  ·rw[if_neg hw] at h
   exact key undef (.inr ⟨by simpa using hw,rfl⟩) h
theorem wpL_of_T (hs:Region.noSelect ops=true) (lt pre:List Nat) (hQ:∀c a d v w,Q (.panic c) (Act.put a d v) w→Q (.panic c) a w) :
  ∀(seq:List (Nat × Nat)) (listed:Array Bool) (a:Act) (w:World),Has listed pre→Closed md ops listed→((∃x∈seq,x.1≤1)→S w) →
   seqOk md ops lt seq listed=true→wpS P ops S Q (pickOps ops.toList seq) a w→wpL P md ops Q S (fun i=>lt.contains i||pre.contains i) seq.length listed a w
 | [],listed,a,w,_,_,_,hc,h=>⟨by simpa [seqOk] using hc,by simpa only[pickOps,wpS] using h⟩
 | (0,i) :: r,listed,a,w,hh,hcl,hS,hc,h=>by
  have hSw:S w:=hS ⟨_,List.mem_cons_self,Nat.zero_le _⟩
  simp only[seqOk,Bool.and_eq_true] at hc
  obtain ⟨⟨⟨⟨hr,hf⟩,hnl⟩,hla⟩,hc'⟩:=hc
  obtain ⟨oi,hoi⟩:∃oi,ops[i]?=some oi:=by
   have:=(mem_ready (md:=md) (ops:=ops) (listed:=listed) (j:=i)).1 (by simpa using hr)
   obtain ⟨_,oi,h1,_⟩:=this
   exact ⟨oi,h1⟩
  have hp:nthOp ops.toList i=some oi:=by rw[nthOp_eq];simpa using hoi
  have hlate:∀j listed,Has listed pre→(lt.contains j||pre.contains j)=true→Closed md ops listed→j∈Region.ready md ops listed→listed.getD i false=true:=by
   intro j listed' hp' hl hcl' hj
   rcases Bool.or_eq_true _ _▸hl with hl|hl
   ·have h1:=List.all_eq_true.1 hla j (by simpa using hl)
    exact closure_listed hcl' _ _ (ready_afters hj) i (by simpa using h1)
   ·have h1:=hp' j (by simpa using hl)
    have h0:=(mem_ready.1 hj).1
    rcases Nat.lt_or_ge j listed'.size with h'|h'
    ·simp[h'] at h0 h1;rw[h0] at h1;cases h1
    ·simp[Array.getElem?_eq_none h'] at h1
  simp only[pickOps,hp,wpS] at h
  have key:∀v,YieldsIf P ops S oi v a→wpS P ops S Q (pickOps ops.toList r) (a.put oi.dst v) w→wpL P md ops Q S (fun i=>lt.contains i||pre.contains i) (r.length+1) listed a w:=by
   intro v hy hK
   exact wpL_firstP (pre:=pre) hoi (Region.noSelect_spec hs) (fun c a' w'=>hQ c a' _ _ w') hlate r.length listed a w hh hcl (Region.free_spec hoi hf) (by simpa using hr) hy hSw
    (wpL_of_T hs lt pre hQ r _ _ w (hh.set i) (hcl.set (by simpa using hr)) (fun _=>hSw) hc' hK)
  by_cases hw:Region.wanted oi (yielded ops a.tmps)=true
  ·rw[if_pos hw] at h
   obtain ⟨v,hv,hK⟩:=h
   exact key v (.inl ⟨hw,hv⟩) hK
  ·rw[if_neg hw] at h
   exact key undef (.inr ⟨by simpa using hw,rfl⟩) h
 | (1,i) :: r,listed,a,w,hh,hcl,hS,hc,h=>by
  have hSw:S w:=hS ⟨_,List.mem_cons_self,Nat.le_refl _⟩
  simp only[seqOk,Bool.and_eq_true,beq_iff_eq] at hc
  obtain ⟨hr,hc'⟩:=hc
  obtain ⟨oi,hoi⟩:∃oi,ops[i]?=some oi:=by
   obtain ⟨_,oi,h1,_⟩:=(mem_ready (md:=md) (ops:=ops) (listed:=listed) (j:=i)).1 (by rw[hr];simp)
   exact ⟨oi,h1⟩
  have hp:nthOp ops.toList i=some oi:=by rw[nthOp_eq];simpa using hoi
  simp only[pickOps,hp,wpS] at h
  refine ⟨fun h0=>absurd (hr▸h0) (by simp),fun j hj=>?_⟩
  rw[hr] at hj
  obtain rfl:j=i:=by simpa using hj
  refine wpOp_of_if hoi ?_
  split
  ·rename_i hw
   rw[if_pos hw] at h
   exact h.imp (Oper.wp_mono fun a' w' hk=>⟨fun _=>hk.1,wpL_of_T hs lt pre hQ r _ a' w' (hh.set j) (hcl.set (by rw[hr];simp)) (fun _=>hk.1) hc' hk.2⟩) id
  ·rename_i hw
   rw[if_neg hw] at h
   exact ⟨fun _=>hSw,wpL_of_T hs lt pre hQ r _ _ w (hh.set j) (hcl.set (by rw[hr];simp)) (fun _=>hSw) hc' h⟩
 | (n+2,i) :: r,listed,a,w,hh,hcl,hS,hc,h=>by
  simp only[seqOk,Bool.and_eq_true,beq_iff_eq] at hc
  obtain ⟨⟨⟨hr,hl⟩,hno⟩,hc'⟩:=hc
  obtain ⟨oi,hoi⟩:∃oi,ops[i]?=some oi:=by
   obtain ⟨_,oi,h1,_⟩:=(mem_ready (md:=md) (ops:=ops) (listed:=listed) (j:=i)).1 (by rw[hr];simp)
   exact ⟨oi,h1⟩
  have hp:nthOp ops.toList i=some oi:=by rw[nthOp_eq];simpa using hoi
  simp only[pickOps,hp,wpS] at h
  refine ⟨fun h0=>absurd (hr▸h0) (by simp),fun j hj=>?_⟩
  rw[hr] at hj
  obtain rfl:j=i:=by simpa using hj
  have hnoz:¬∃x∈r,x.1≤1:=by
   rintro ⟨x,hx,h0⟩
   have:=List.all_eq_true.1 hno x hx
   simp at this
   omega
  refine wpOp_of_if hoi ?_
  split
  ·rename_i hw
   rw[if_pos hw] at h
   exact h.imp (Oper.wp_mono fun a' w' hk=>⟨fun h0=>by rw[show (fun i=>lt.contains i||pre.contains i) j=(lt.contains j||pre.contains j) from rfl,hl] at h0;exact absurd h0 (by simp),wpL_of_T hs lt pre hQ r _ a' w' (hh.set j) (hcl.set (by rw[hr];simp)) (fun hz=>absurd hz hnoz) hc' hk⟩) id
  ·rename_i hw
   rw[if_neg hw] at h
   exact ⟨fun h0=>by rw[show (fun i=>lt.contains i||pre.contains i) j=(lt.contains j||pre.contains j) from rfl,hl] at h0;exact absurd h0 (by simp),wpL_of_T hs lt pre hQ r _ _ w (hh.set j) (hcl.set (by rw[hr];simp)) (fun hz=>absurd hz hnoz) hc' h⟩
theorem wp_region_T {id:Nat} {l:List Oper} {a:Act} {w:World} (S:World→Prop) (pre lt:List Nat) (seq:List (Nat × Nat))
  (hm:P.follows .mixedOrders=true) (hc:(Region.noSelect l.toArray&&decide (seq.length+pre.length≤l.length)&&preOk .any l.toArray pre (Array.replicate l.length false)&&seqOk .any l.toArray lt seq (preSet pre (Array.replicate l.length false)))=true)
  (hS:S w.drew)
  (h:wpF P l.toArray (fun a'=>wpS P l.toArray S (NoPanic Q) (pickOps l seq) a' w.drew) (pickF l pre) a):(Code.region id l.toArray true).wp P Q a w:=by
 refine wp_region_noPanic ?_
 simp only[Bool.and_eq_true,decide_eq_true_eq] at hc
 obtain ⟨⟨⟨hs,hlen⟩,hp⟩,hc⟩:=hc
 refine wp_region_any hm ?_
 obtain ⟨m,hm'⟩:∃m,l.toArray.size=(seq.length+pre.length)+m:=⟨l.length - (seq.length+pre.length),by simp;omega⟩
 rw[hm']
 refine wpAny_more _ _ _ _ _ (wpAny_of_L (S:=S) (late:=fun i=>lt.contains i||pre.contains i) _ _ _ _ ?_)
 have e:Array.replicate (seq.length+pre.length+m) false=Array.replicate l.length false:=by rw[← hm'];simp
 rw[e]
 have hh:=(preSet_has (md := .any) (ops:=l.toArray) pre (Array.replicate l.length false) hp).1
 have hcl0:Closed .any l.toArray (Array.replicate l.length false):=closed_none _
 have hQ:∀c a d v w,NoPanic Q (.panic c) (Act.put a d v) w→NoPanic Q (.panic c) a w:=fun _ _ _ _ _ h=>h
 have hmono:∀(os:List Oper) (a:Act) (K K':Act→Prop),(∀a',K a'→K' a')→wpF P l.toArray K os a→wpF P l.toArray K' os a:=by
  intro os
  induction os with
  | nil=>intro a K K' hk h;exact hk a h
  | cons o r ih =>
   intro a K K' hk h
   simp only[wpF] at h ⊢
   split
   ·rename_i hw
    rw[if_pos hw] at h
    obtain ⟨v,hv,h⟩:=h
    exact ⟨v,hv,ih _ K K' hk h⟩
   ·rename_i hw
    rw[if_neg hw] at h
    exact ih _ K K' hk h
 have hcl:Closed .any l.toArray (preSet pre (Array.replicate l.length false)):=by
  have hgen:∀(pre:List Nat) (listed:Array Bool),Closed .any l.toArray listed→preOk .any l.toArray pre listed=true→Closed .any l.toArray (preSet pre listed):=by
   intro pre
   induction pre with
   | nil=>intro listed h _;exact h
   | cons i r ih =>
    intro listed h hc
    simp only[preOk,Bool.and_eq_true] at hc
    exact ih _ (h.set (by simpa using hc.1.1)) hc.2
  exact hgen pre _ hcl0 hp
 exact (wpL_of_F hs hQ seq.length pre _ a w.drew (fun p hp=>by simp[hp]) hcl0 hp (hmono _ _ _ _ (fun a' h'=>wpL_of_T hs lt pre hQ seq _ a' w.drew hh hcl (fun _=>hS) hc h') h)).1
theorem wpF_quiet {K:Act→Prop} {a:Act} {o:Oper} {r:List Oper} (hp:plainOp o=true) (hw:Region.wanted o (yielded ops a.tmps)=true)
  (h:∀K':Act→Prop,(∀a',wpF P ops K r a'→K' a')→o.quiet P a (fun _=>True) K'):wpF P ops K (o :: r) a:=by
 simp only[wpF,hw,if_true]
 obtain ⟨v,hv,hK⟩:=h (fun a'=>wpF P ops K r a') (fun _ h=>h)
 refine ⟨v,fun w'=>?_,hK⟩
 have hq:=hv w' trivial
 unfold Oper.quietAt at hq
 cases hr:(execOp a.eval o).run P w' with
 | halt x w1=>rw[hr] at hq;exact hq.elim
 | ok n w1 =>
  obtain ⟨u,rfl⟩:=plain_value hp _ hr
  rw[hr] at hq
  obtain ⟨rfl,rfl⟩:=hq
  rfl
theorem wpF_skip {K:Act→Prop} {a:Act} {dst:Option Tmp} {op:Op} {ty:TypeId} {pos:String} {after:Array Edge} {g:Option (Nat × Bool)} {r:List Oper}
  (hw:Region.wanted (Oper.mk dst op ty pos after g) (yielded ops a.tmps)=false)
  (h:∀K':Act→Prop,(∀a',wpF P ops K r a'→K' a')→(Oper.mk dst (.move (.const undef)) ty pos after none).quiet P a (fun _=>True) K'):wpF P ops K (Oper.mk dst op ty pos after g :: r) a:=by
 obtain ⟨v,hv,hK⟩:=h (fun a'=>wpF P ops K r a') (fun _ h=>h)
 have hq:=hv default trivial
 have:v=undef:=by
  simp[Oper.quietAt,execOp,Sem.run_pure,Oper.quietUpon] at hq
  exact hq.symm
 subst this
 simp only[wpF,hw]
 exact hK
theorem wpF_end {K:Act→Prop} {a:Act} (h:K a):wpF P ops K [] a:=h
attribute [irreducible] wpF
end
end
section
open Go Go.RowKit Go.ChangeShapes Go.WideShapes
theorem O1.cells3:Try.prog.cellsOf 3=1:=by kernel_rfl
section
variable {H:Type} {enc:TypeId × Value→H} {w:World} {held:Bool}
end
end
section
open Go Go.RowKit
section
variable {P:Program} {ops:Array Oper} {Q:Exit→Act→World→Prop} {md:Region.Mode} {S:World→Prop}
end
end
section
open Go Go.RowKit
section
variable {P:Program} {ops:Array Oper} {Q:Exit→Act→World→Prop} {md:Region.Mode} {l0 n:Nat}
end
end
section
open Go Go.RowKit Go.ChangeShapes Go.WideShapes
section
variable {H:Type} {enc:TypeId × Value→H} {w:World} {held:Bool}
end
end
section
open Go Go.RowKit
def hold (o:Obj) (b:Nat) (u:World):World:={ u with heap:=(u.heap.toList.take b++List.replicate (b - u.heap.size) o++o :: u.heap.toList.drop (b+1)).toArray }
theorem hold_heap (o:Obj) (b:Nat) (u:World):(hold o b u).heap[b]?=some o:=by
 simp only[hold,List.getElem?_toArray]
 rw[List.getElem?_append_right (by simp;omega)]
 rw[show b - (u.heap.toList.take b++List.replicate (b - u.heap.size) o).length=0 from by simp;omega]
 rfl
theorem hold_of {o:Obj} {b:Nat} {w:World} (h:w.heap[b]?=some o):w=hold o b w:=by
 have hb:=q_lt h
 cases w with
 | mk hp tp dr os ou =>
  simp only at h hb
  simp only[hold,World.mk.injEq,and_true]
  apply Array.ext_getElem?
  intro k
  have e:∀L:List Obj,L.toArray[k]?=L[k]?:=fun L=>by simp
  rw[e (hp.toList.take b++List.replicate (b - hp.size) o++o :: hp.toList.drop (b+1)),show b - hp.size=0 from by omega,List.replicate_zero,List.append_nil]
  rcases Nat.lt_trichotomy k b with hk|hk|hk
  ·rw[List.getElem?_append_left (by simp;omega),List.getElem?_take,if_pos hk,Array.getElem?_toList]
  ·subst hk
   rw[List.getElem?_append_right (by simp;omega),h,show k - (hp.toList.take k).length=0 from by simp;omega]
   rfl
  ·rw[List.getElem?_append_right (by simp;omega),show k - (hp.toList.take b).length=(k - b - 1)+1 from by simp;omega,List.getElem?_cons_succ,List.getElem?_drop,Array.getElem?_toList]
   congr 1
   omega
theorem hold_c0 (v0 v1 v2:Value) (T:TypeId) (b:Nat) (u:World):(hold (.cells #[v0,v1,v2] T (0,0)) b u).cell? ⟨b,0,none⟩=some v0:=q_cell (hold_heap _ b u) 0
theorem hold_c1 (v0 v1 v2:Value) (T:TypeId) (b:Nat) (u:World):(hold (.cells #[v0,v1,v2] T (0,0)) b u).cell? ⟨b,1,none⟩=some v1:=q_cell (hold_heap _ b u) 1
theorem hold_c2 (v0 v1 v2:Value) (T:TypeId) (b:Nat) (u:World):(hold (.cells #[v0,v1,v2] T (0,0)) b u).cell? ⟨b,2,none⟩=some v2:=q_cell (hold_heap _ b u) 2
end
section
def maskBy (p:Nat→Bool) (cs:List Int):Nat→Nat
 | 0=>0
 | k+1=>if p k=true∧0≤cs[k]?.getD 0 then maskBy p cs k ||| 1 <<< (cs[k]?.getD 0).toNat else maskBy p cs k
theorem maskBy_bit {p:Nat→Bool} {cs:List Int} {x:Nat}:∀{k:Nat},(maskBy p cs k).testBit x=true↔∃j,j<k∧p j=true∧cs[j]?.getD 0=(x:Int):=by
 intro k
 induction k with
 | zero=>simp[maskBy]
 | succ k ih =>
  unfold maskBy
  by_cases h:p k=true∧0≤cs[k]?.getD 0
  ·rw[if_pos h,Nat.testBit_or,Bool.or_eq_true,ih,Nat.one_shiftLeft,Nat.testBit_two_pow,decide_eq_true_eq]
   constructor
   ·rintro (⟨j,hj,h1,h2⟩|e)
    ·exact ⟨j,by omega,h1,h2⟩
    ·exact ⟨k,by omega,h.1,by omega⟩
   ·rintro ⟨j,hj,h1,h2⟩
    by_cases e:j=k
    ·subst e;right;omega
    ·left;exact ⟨j,by omega,h1,h2⟩
  ·rw[if_neg h,ih]
   constructor
   ·rintro ⟨j,hj,h1,h2⟩;exact ⟨j,by omega,h1,h2⟩
   ·rintro ⟨j,hj,h1,h2⟩
    by_cases e:j=k
    ·subst e;exact absurd ⟨h1,by omega⟩ h
    ·exact ⟨j,by omega,h1,h2⟩
theorem maskBy_lt {p:Nat→Bool} {cs:List Int} {n:Nat} (h:∀j:Nat,cs[j]?.getD 0<(n:Int)):∀{k:Nat},maskBy p cs k<2 ^ n:=by
 intro k
 apply Nat.lt_pow_two_of_testBit
 intro i hi
 rw[Bool.eq_false_iff]
 intro e
 obtain ⟨j,_,_,e2⟩:=maskBy_bit.1 e
 have:=h j
 omega
def lineB (C c d:Nat):Bool:=c / C==d / C||c % C==d % C
def twiceB (C:Nat) (cs:List Int):Bool:=(List.range cs.length).any fun c=>(List.range c).any fun d=>lineB C c d&&cs[c]?.getD 0==cs[d]?.getD 0&&decide (0≤cs[c]?.getD 0)
theorem twiceB_true {C:Nat} {cs:List Int}:twiceB C cs=true↔∃c d,c<cs.length∧d<c∧lineB C c d=true∧cs[c]?.getD 0=cs[d]?.getD 0∧0≤cs[c]?.getD 0:=by
 unfold twiceB
 simp only[List.any_eq_true,List.mem_range,Bool.and_eq_true,beq_iff_eq,decide_eq_true_eq]
 constructor
 ·rintro ⟨c,hc,d,hd,⟨h1,h2⟩,h3⟩;exact ⟨c,d,hc,hd,h1,h2,h3⟩
 ·rintro ⟨c,d,hc,hd,h1,h2,h3⟩;exact ⟨c,hc,d,hd,⟨h1,h2⟩,h3⟩
def rowM (C:Nat) (cs:List Int) (k r:Nat):Nat:=maskBy (fun j=>j / C==r) cs k
def colM (C:Nat) (cs:List Int) (k r:Nat):Nat:=maskBy (fun j=>j % C==r) cs k
theorem twice_at {C:Nat} {cs:List Int} {k:Nat} (hk:k<cs.length) (h0:0≤cs[k]?.getD 0) (h:(rowM C cs k (k / C)).testBit (cs[k]?.getD 0).toNat=true∨(colM C cs k (k % C)).testBit (cs[k]?.getD 0).toNat=true):twiceB C cs=true:=by
 rw[twiceB_true]
 rcases h with h|h
 ·obtain ⟨j,hj,h1,h2⟩:=maskBy_bit.1 h
  exact ⟨k,j,hk,hj,by unfold lineB;simp only[beq_iff_eq] at h1;simp[h1],by omega,h0⟩
 ·obtain ⟨j,hj,h1,h2⟩:=maskBy_bit.1 h
  exact ⟨k,j,hk,hj,by unfold lineB;simp only[beq_iff_eq] at h1;simp[h1],by omega,h0⟩
def NoTwice (C:Nat) (cs:List Int) (k:Nat):Prop:=∀j,j<k→0≤cs[j]?.getD 0→(rowM C cs j (j / C)).testBit (cs[j]?.getD 0).toNat=false∧(colM C cs j (j % C)).testBit (cs[j]?.getD 0).toNat=false
theorem noTwice_end {C:Nat} {cs:List Int} (h:NoTwice C cs cs.length):twiceB C cs=false:=by
 rw[Bool.eq_false_iff]
 intro e
 obtain ⟨c,d,hc,hd,hl,he,h0⟩:=twiceB_true.1 e
 obtain ⟨h1,h2⟩:=h c hc h0
 unfold lineB at hl
 rw[Bool.or_eq_true,beq_iff_eq,beq_iff_eq] at hl
 rcases hl with hl|hl
 ·rw[Bool.eq_false_iff] at h1
  exact h1 (maskBy_bit.2 ⟨d,hd,by simp[hl],by omega⟩)
 ·rw[Bool.eq_false_iff] at h2
  exact h2 (maskBy_bit.2 ⟨d,hd,by simp[hl],by omega⟩)
theorem noTwice_zero {C:Nat} {cs:List Int}:NoTwice C cs 0:=fun j hj=>absurd hj (by omega)
theorem noTwice_succ {C:Nat} {cs:List Int} {k:Nat} (h:NoTwice C cs k) (hn:0≤cs[k]?.getD 0→(rowM C cs k (k / C)).testBit (cs[k]?.getD 0).toNat=false∧(colM C cs k (k % C)).testBit (cs[k]?.getD 0).toNat=false):NoTwice C cs (k+1):=by
 intro j hj
 by_cases e:j=k
 ·subst e;exact hn
 ·exact h j (by omega)
theorem rowM_succ {C:Nat} {cs:List Int} {k:Nat} (h0:0≤cs[k]?.getD 0) (r:Nat):rowM C cs (k+1) r=if k / C=r then rowM C cs k r ||| 1 <<< (cs[k]?.getD 0).toNat else rowM C cs k r:=by
 unfold rowM
 rw[maskBy]
 by_cases e:k / C=r
 ·rw[if_pos ⟨by simp[e],h0⟩,if_pos e]
 ·rw[if_neg (by simp[e]),if_neg e]
theorem colM_succ {C:Nat} {cs:List Int} {k:Nat} (h0:0≤cs[k]?.getD 0) (r:Nat):colM C cs (k+1) r=if k % C=r then colM C cs k r ||| 1 <<< (cs[k]?.getD 0).toNat else colM C cs k r:=by
 unfold colM
 rw[maskBy]
 by_cases e:k % C=r
 ·rw[if_pos ⟨by simp[e],h0⟩,if_pos e]
 ·rw[if_neg (by simp[e]),if_neg e]
theorem rowM_skip {C:Nat} {cs:List Int} {k:Nat} (h0:cs[k]?.getD 0<0) (r:Nat):rowM C cs (k+1) r=rowM C cs k r:=by
 unfold rowM
 rw[maskBy,if_neg (fun h=>by omega)]
theorem colM_skip {C:Nat} {cs:List Int} {k:Nat} (h0:cs[k]?.getD 0<0) (r:Nat):colM C cs (k+1) r=colM C cs k r:=by
 unfold colM
 rw[maskBy,if_neg (fun h=>by omega)]
def symE (low:Int) (C:Nat) (cs:List Int):Int:=if (cs.any fun x=>decide (x<low)||decide ((C:Int)≤x))=true then 3 else if twiceB C cs=true then 17 else 0
def sqB (rows cols:Int) (cs:List Int):Bool:=decide (rows=cols)&&decide (1≤rows)&&decide (rows≤16)&&decide ((cs.length:Int)=rows*cols)
def sqE (low rows cols:Int) (cs:List Int):Int:=if sqB rows cols cs=true then symE low cols.toNat cs else 2
structure Latin (n:Nat) (cs:List Int):Prop where
 len:cs.length=n*n
 pos:1≤n
 le:n≤16
 num:∀x,x∈cs→0≤x∧x<(n:Int)
 once:twiceB n cs=false
theorem sqE_ok {rows cols:Int} {cs:List Int} (h:sqE 0 rows cols cs=0):∃n:Nat,rows=(n:Int)∧cols=(n:Int)∧Latin n cs:=by
 unfold sqE at h
 by_cases h1:sqB rows cols cs=true
 ·rw[if_pos h1] at h
  unfold sqB at h1
  simp only[Bool.and_eq_true,decide_eq_true_eq] at h1
  obtain ⟨⟨⟨e1,e2⟩,e3⟩,e4⟩:=h1
  subst e1
  obtain ⟨n,rfl⟩:=Int.eq_ofNat_of_zero_le (show 0≤rows by omega)
  unfold symE at h
  by_cases h2:(cs.any fun x=>decide (x<0)||decide (((n:Int).toNat:Int)≤x))=true
  ·rw[if_pos h2] at h;cases h
  ·rw[if_neg h2] at h
   by_cases h3:twiceB (n:Int).toNat cs=true
   ·rw[if_pos h3] at h;cases h
   ·refine ⟨n,rfl,rfl,⟨by exact_mod_cast e4,by omega,by omega,fun x hx=>?_,by simpa using h3⟩⟩
    rw[List.any_eq_true] at h2
    by_cases hx0:0≤x∧x<(n:Int)
    ·exact hx0
    ·exact absurd ⟨x,hx,by rw[Bool.or_eq_true,decide_eq_true_eq,decide_eq_true_eq];simp only[Int.toNat_natCast];omega⟩ h2
 ·rw[if_neg h1] at h;cases h
end
section
def putAll (ps:List (Nat × Int)) (l:List Int):List Int:=ps.foldl (fun l p=>l.set p.1 p.2) l
theorem putAll_len {ps:List (Nat × Int)} {l:List Int}:(putAll ps l).length=l.length:=by
 unfold putAll
 induction ps generalizing l with
 | nil=>rfl
 | cons p ps ih=>rw[List.foldl_cons,ih,List.length_set]
theorem putAll_snoc {ps:List (Nat × Int)} {p:Nat × Int} {l:List Int}:putAll (ps++[p]) l=(putAll ps l).set p.1 p.2:=by
 unfold putAll
 rw[List.foldl_append]
 rfl
theorem putAll_get:∀{ps:List (Nat × Int)} {a:List Int} {p:Nat × Int},(ps.map (·.1)).Nodup→p∈ps→p.1<a.length→(putAll ps a)[p.1]?=some p.2:=by
 intro ps
 induction ps with
 | nil=>intro a p _ h;cases h
 | cons q ps ih =>
  intro a p hn hp hl
  rw[List.map_cons,List.nodup_cons] at hn
  show (putAll ps (a.set q.1 q.2))[p.1]?=some p.2
  rcases List.mem_cons.1 hp with rfl|hp
  ·have hno:∀{qs:List (Nat × Int)} {b:List Int},p.1 ∉ qs.map (·.1)→(putAll qs b)[p.1]?=b[p.1]?:=by
    intro qs
    induction qs with
    | nil=>intro b _;rfl
    | cons r qs ih2 =>
     intro b h
     rw[List.map_cons,List.mem_cons] at h
     show (putAll qs (b.set r.1 r.2))[p.1]?=b[p.1]?
     rw[ih2 (fun h2=>h (Or.inr h2)),List.getElem?_set,if_neg (fun e=>h (Or.inl e.symm))]
   rw[hno hn.1,List.getElem?_set,if_pos rfl,if_pos hl]
  ·exact ih hn.2 hp (by rw[List.length_set];exact hl)
end
section
open Go Go.RowKit
end
section
open Go Go.RowKit
attribute [local go_sem] over_cell
attribute [local go_sem] Oper.semAt_some
theorem infoBool1:(Try.prog.info? 4).map (fun i=>(i.zero,i.size,i.bytes))=some (some (.bool false),1,1):=by kernel_rfl
def seenL (n:Nat) (p:List Int) (k:Nat):List Value:=(List.range n).map fun (i:Nat)=>Value.bool (hasB (p.take k) (i:Int))
theorem seen_zero (n:Nat) (p:List Int):(madeCells (Value.bool false).cells (n*1)).toList=seenL n p 0:=by
 have e:(madeCells (Value.bool false).cells (n*1)).toList=List.replicate n (.bool false):=by
  apply List.ext_getElem?
  intro i
  by_cases h:i<n
  ·simp[madeCells,h,Value.cells,Nat.mod_one]
  ·simp[madeCells,h]
 rw[e]
 unfold seenL
 apply List.ext_getElem
 ·simp
 ·intro i h1 h2
  simp[hasB]
theorem seen_set {n:Nat} {p:List Int} {k q:Nat} (hk:k<p.length) (hq:p[k]?.getD 0=(q:Int)):(seenL n p k).set q (.bool true)=seenL n p (k+1):=by
 unfold seenL
 apply List.ext_getElem
 ·simp
 ·intro i h1 h2
  rw[List.getElem_set]
  simp only[List.getElem_map,List.getElem_range]
  have e:hasB (p.take (k+1)) (i:Int)=(hasB (p.take k) (i:Int)||(q==i)):=by
   unfold hasB
   rw[take_snoc p 0 k hk,hq,Bool.eq_iff_iff,Bool.or_eq_true,List.contains_iff_mem,List.contains_iff_mem,List.mem_append,List.mem_singleton,beq_iff_eq]
   constructor
   ·rintro (h|h)
    ·exact .inl h
    ·exact .inr (by omega)
   ·rintro (h|h)
    ·exact .inl h
    ·exact .inr (by omega)
  rw[e]
  by_cases hi:q=i
  ·subst hi;simp
  ·simp[hi]
theorem seen_at {n:Nat} {p:List Int} {k q:Nat} {x:Value} (h:(seenL n p k)[q]?=some x):x = .bool (hasB (p.take k) (q:Int)):=by
 unfold seenL at h
 rw[List.getElem?_map] at h
 cases h2:(List.range n)[q]? with
 | none=>rw[h2] at h;cases h
 | some j =>
  rw[h2] at h
  have:j=q:=by
   have h3:=List.getElem?_eq_some_iff.1 h2
   obtain ⟨h4,h5⟩:=h3
   simpa using h5.symm
  subst this
  simpa using h.symm
end
section
open Go Go.RowKit
attribute [local go_sem] over_cell
attribute [local go_sem] Oper.semAt_some
end
section
open Go Go.RowKit
inductive PT where
 | leaf (s:List (Nat × Nat)):PT
 | fork (qs:List Nat) (i j:Nat) (ti tj:PT):PT
def PT.depth:PT→Nat
 | .leaf s=>s.length
 | .fork qs _ _ ti _=>qs.length+(ti.depth+1)
def KQ (K:Act→World→Prop) (Q:Exit→Act→World→Prop):Exit→Act→World→Prop
 | .normal,a,w=>K a w
 | e,a,w=>Q e a w
theorem keep_set {B:Nat} {w0 w:World} {p:Addr} (h:Below B w0 w) (hp:B≤p.block) (u:Value):Below B w0 (w.setCell p u):=h.setCell hp u
section
variable {P:Program} {ops:Array Oper} {Q:Exit→Act→World→Prop} {md:Region.Mode} {S:World→Prop}
def forkPre (md:Region.Mode) (ops:Array Oper) (lt:List Nat) (i j:Nat) (F:Array Bool→Bool):List Nat→Array Bool→Bool
 | [],listed=>((Region.ready md ops listed)==[i,j])&&F listed
 | k :: qs,listed =>
  (Region.ready md ops listed).contains k&&Region.free md ops listed k&&!lt.contains k&&lt.all (fun j=>(closure md ops ops.size (aftersOf md ops j)).contains k)&&forkPre md ops lt i j F qs (listed.setIfInBounds k true)
def treeOk (md:Region.Mode) (ops:Array Oper) (lt:List Nat):PT→Array Bool→Bool
 | .leaf s,listed=>decide (0<(s.filter fun x=>decide (x.1≤1)).length)&&seqOk md ops lt s listed
 | .fork qs i j ti tj,listed=>decide (tj.depth=ti.depth)&&!lt.contains i&&!lt.contains j &&
  forkPre md ops lt i j (fun l=>treeOk md ops lt ti (l.setIfInBounds i true)&&treeOk md ops lt tj (l.setIfInBounds j true)) qs listed
def wpTr (P:Program) (ops:Array Oper) (S:World→Prop) (Q:Exit→Act→World→Prop):PT→Act→World→Prop
 | .leaf s,a,w=>wpS P ops S Q (pickOps ops.toList s) a w
 | .fork qs i j ti tj,a,w=>wpS P ops S (KQ (wpTr P ops S Q ti) Q) (pickOps ops.toList (qs.map (fun k=>(0,k))++[(1,i)])) a w ∧
   wpS P ops S (KQ (wpTr P ops S Q tj) Q) (pickOps ops.toList (qs.map (fun k=>(0,k))++[(1,j)])) a w
theorem KQ_lets {K:Act→World→Prop} (h:LetsOut (KQ K Q)):LetsOut Q:=h
theorem loud_KQ {K:Act→World→Prop} {o:Oper} {a:Act} {w:World} (h:wpS P ops S (KQ K Q) [(1,o)] a w) :
  if Region.wanted o (yielded ops a.tmps) then o.wp P a w (fun a' w'=>S w'∧K a' w') Q∨(o.asks P a w∧LetsOut Q) else K (a.put o.dst undef) w:=by
 simp only[wpS] at h
 split
 ·rename_i hw
  rw[if_pos hw] at h
  rcases h with h|⟨h1,h2⟩
  ·left
   unfold Oper.wp at *
   generalize (execOp a.eval o).run P w=x at *
   cases x with
   | ok n w'=>cases n <;> simp only[Oper.upon] at h ⊢ <;> (try exact h) <;> (try exact h.2) <;> (try exact h.2.2)
   | halt x w'=>cases x <;> simp only[Oper.upon] at h ⊢ <;> exact h
  ·exact .inr ⟨h1,KQ_lets h2⟩
 ·rename_i hw
  rw[if_neg hw] at h
  exact h
theorem loud_K {lt:List Nat} {K:Act→World→Prop} {i:Nat} {listed:Array Bool} {d:Nat} {a:Act} {w:World}
  (hr:i∈Region.ready md ops listed) (_hnl:lt.contains i=false) (hS:S w)
  (hk:∀a' w',S w'→K a' w'→wpL P md ops Q S (fun i=>lt.contains i) d (listed.setIfInBounds i true) a' w') (h:wpS P ops S (KQ K Q) (pickOps ops.toList [(1,i)]) a w) :
  wpOp P ops Q i (fun a' w'=>(lt.contains i=false→S w')∧wpL P md ops Q S (fun i=>lt.contains i) d (listed.setIfInBounds i true) a' w') a w:=by
 obtain ⟨oi,hoi⟩:∃oi,ops[i]?=some oi:=by
  obtain ⟨_,oi,h1,_⟩:=(mem_ready (md:=md) (ops:=ops) (listed:=listed) (j:=i)).1 hr
  exact ⟨oi,h1⟩
 have hp:nthOp ops.toList i=some oi:=by rw[nthOp_eq];simpa using hoi
 simp only[pickOps,hp] at h
 have h2:=loud_KQ h
 refine wpOp_of_if hoi ?_
 split
 ·rename_i hw
  rw[if_pos hw] at h2
  exact h2.imp (Oper.wp_mono fun a' w' hx=>⟨fun _=>hx.1,hk a' w' hx.1 hx.2⟩) id
 ·rename_i hw
  rw[if_neg hw] at h2
  exact ⟨fun _=>hS,hk _ _ hS h2⟩
theorem wpL_of_pre (hs:Region.noSelect ops=true) (lt:List Nat) (i j:Nat) (F:Array Bool→Bool) (d:Nat) (Ki Kj:Act→World→Prop) (hQ:∀c a d v w,Q (.panic c) (Act.put a d v) w→Q (.panic c) a w)
  (hni:lt.contains i=false) (hnj:lt.contains j=false)
  (hF:∀listed,F listed=true→Closed md ops listed→(i∈Region.ready md ops listed→∀a' w',S w'→Ki a' w'→wpL P md ops Q S (fun i=>lt.contains i) d (listed.setIfInBounds i true) a' w')∧(j∈Region.ready md ops listed→∀a' w',S w'→Kj a' w'→wpL P md ops Q S (fun i=>lt.contains i) d (listed.setIfInBounds j true) a' w')) :
  ∀(qs:List Nat) (listed:Array Bool) (a:Act) (w:World),Closed md ops listed→S w→forkPre md ops lt i j F qs listed=true →
   wpS P ops S (KQ Ki Q) (pickOps ops.toList (qs.map (fun k=>(0,k))++[(1,i)])) a w→wpS P ops S (KQ Kj Q) (pickOps ops.toList (qs.map (fun k=>(0,k))++[(1,j)])) a w →
   wpL P md ops Q S (fun i=>lt.contains i) (qs.length+(d+1)) listed a w
 | [],listed,a,w,hcl,hSw,hc,h1,h2=>by
  simp only[forkPre,Bool.and_eq_true,beq_iff_eq] at hc
  obtain ⟨hr,hc1⟩:=hc
  rw[show ([]:List Nat).length+(d+1)=d+1 from by simp]
  refine ⟨fun h0=>absurd (hr▸h0) (by simp),fun k hk=>?_⟩
  have hk':=hk
  rw[hr] at hk'
  rcases List.mem_cons.1 hk' with rfl|hk2
  ·exact loud_K hk hni hSw ((hF listed hc1 hcl).1 hk) h1
  ·obtain rfl:k=j:=by simpa using hk2
   exact loud_K hk hnj hSw ((hF listed hc1 hcl).2 hk) h2
 | k :: qs,listed,a,w,hcl,hSw,hc,h1,h2=>by
  simp only[forkPre,Bool.and_eq_true] at hc
  obtain ⟨⟨⟨⟨hr,hf⟩,hnl⟩,hla⟩,hc'⟩:=hc
  obtain ⟨oi,hoi⟩:∃oi,ops[k]?=some oi:=by
   obtain ⟨_,oi,h1,_⟩:=(mem_ready (md:=md) (ops:=ops) (listed:=listed) (j:=k)).1 (by simpa using hr)
   exact ⟨oi,h1⟩
  have hp:nthOp ops.toList k=some oi:=by rw[nthOp_eq];simpa using hoi
  have hnl':lt.contains k=false:=by simpa using hnl
  have hlate:∀j listed,lt.contains j=true→Closed md ops listed→j∈Region.ready md ops listed→listed.getD k false=true:=by
   intro j listed' hl hcl' hj
   have h1:=List.all_eq_true.1 hla j (by simpa using hl)
   exact closure_listed hcl' _ _ (ready_afters hj) k (by simpa using h1)
  simp only[List.map_cons,List.cons_append,pickOps,hp,wpS] at h1 h2
  rw[show (k :: qs).length+(d+1)=(qs.length+(d+1))+1 from by simp only[List.length_cons];omega]
  have key:∀v,YieldsIf P ops S oi v a→wpS P ops S (KQ Ki Q) (pickOps ops.toList (qs.map (fun k=>(0,k))++[(1,i)])) (a.put oi.dst v) w→wpS P ops S (KQ Kj Q) (pickOps ops.toList (qs.map (fun k=>(0,k))++[(1,j)])) (a.put oi.dst v) w→wpL P md ops Q S (fun i=>lt.contains i) (qs.length+(d+1)+1) listed a w:=by
   intro v hy k1 k2
   exact wpL_first hoi (Region.noSelect_spec hs) (fun c a' w'=>hQ c a' _ _ w') hnl' hlate (qs.length+(d+1)) listed a w hcl (Region.free_spec hoi hf) (by simpa using hr) hy hSw
    (wpL_of_pre hs lt i j F d Ki Kj hQ hni hnj hF qs _ _ w (hcl.set (by simpa using hr)) hSw hc' k1 k2)
  by_cases hw:Region.wanted oi (yielded ops a.tmps)=true
  ·rw[if_pos hw] at h1 h2
   obtain ⟨v,hv,hK⟩:=h1
   obtain ⟨v2,hv2,hK2⟩:=h2
   have e:=(hv w hSw).symm.trans (hv2 w hSw)
   simp only[Result.ok.injEq,Next.value.injEq,and_true] at e
   subst e
   exact key v (.inl ⟨hw,hv⟩) hK hK2
  ·rw[if_neg hw] at h1 h2
   exact key undef (.inr ⟨by simpa using hw,rfl⟩) h1 h2
theorem wpL_of_tree (hs:Region.noSelect ops=true) (lt:List Nat) (hQ:∀c a d v w,Q (.panic c) (Act.put a d v) w→Q (.panic c) a w) :
  ∀(t:PT) (listed:Array Bool) (a:Act) (w:World),Closed md ops listed→S w→treeOk md ops lt t listed=true→wpTr P ops S Q t a w →
   wpL P md ops Q S (fun i=>lt.contains i) t.depth listed a w
 | .leaf s,listed,a,w,hcl,hSw,hc,h=>by
  simp only[treeOk,Bool.and_eq_true] at hc
  exact wpL_of_S hs lt hQ s listed a w hcl (fun _=>hSw) hc.2 h
 | .fork qs i j ti tj,listed,a,w,hcl,hSw,hc,h=>by
  simp only[treeOk,Bool.and_eq_true,decide_eq_true_eq] at hc
  obtain ⟨⟨⟨hd,hni⟩,hnj⟩,hpre⟩:=hc
  refine wpL_of_pre hs lt i j _ ti.depth (wpTr P ops S Q ti) (wpTr P ops S Q tj) hQ (by simpa using hni) (by simpa using hnj) (fun l hl hcl2=>?_) qs listed a w hcl hSw hpre h.1 h.2
  simp only[Bool.and_eq_true] at hl
  refine ⟨fun hr a' w' hS' hK=>wpL_of_tree hs lt hQ ti _ a' w' (hcl2.set hr) hS' hl.1 hK,fun hr a' w' hS' hK=>?_⟩
  rw[← hd]
  exact wpL_of_tree hs lt hQ tj _ a' w' (hcl2.set hr) hS' hl.2 hK
theorem wpTr_end {S:World→Prop} {K:Act→World→Prop} {a:Act} {w:World} (h:K a w):wpS P ops S (KQ K Q) [] a w:=by rw[wpS];exact h
theorem wp_region_tree {id:Nat} {l:List Oper} {a:Act} {w:World} (S:World→Prop) (lt:List Nat) (t:PT)
  (hm:P.follows .mixedOrders=true) (hc:(Region.noSelect l.toArray&&decide (t.depth≤l.length)&&treeOk .any l.toArray lt t (Array.replicate l.length false))=true)
  (hS:S w.drew) (h:wpTr P l.toArray S (NoPanic Q) t a w.drew):(Code.region id l.toArray true).wp P Q a w:=by
 refine wp_region_noPanic ?_
 simp only[Bool.and_eq_true,decide_eq_true_eq] at hc
 obtain ⟨⟨hs,hlen⟩,hc⟩:=hc
 refine wp_region_any hm ?_
 obtain ⟨m,hm'⟩:∃m,l.toArray.size=t.depth+m:=⟨l.length - t.depth,by simp;omega⟩
 rw[hm']
 refine wpAny_more _ _ _ _ _ (wpAny_of_L (S:=S) (late:=fun i=>lt.contains i) _ _ _ _ ?_)
 have e:Array.replicate (t.depth+m) false=Array.replicate l.length false:=by rw[← hm'];simp
 rw[e]
 exact wpL_of_tree hs lt (fun _ _ _ _ _ h=>h) t _ a w.drew (closed_none _) hS hc h
end
end
section
open Go Go.RowKit Go.Maps
section
variable {α:Type} {P:Program} {k e:TypeId} {κ:α→Lit} {b n:Nat} {w:World}
def MapI (w:World) (P:Program) (k e:TypeId) (κ:α→Lit) (b n:Nat) (g:α→Option Int):Prop :=
 ∃D:DataW Unit,w.ownsMap P k (plainElem P e) b n D∧∀x,has D (κ x)=(g x).isSome∧∀c,g x=some c→∀z,D.atKey (κ x) z = .lit (.int .i64 c)
theorem own_block {D:DataW Unit} {w':World} {R:Value→Option (DataW Unit × List MemPlace)} (h:w.ownsMap P k R b n D) (hb:w'.heap[b]?=w.heap[b]?):w'.ownsMap P k R b n D:=by
 obtain ⟨es,clock,h1,r⟩:=h
 exact ⟨es,clock,hb.trans h1,r⟩
theorem MapI.lt {g:α→Option Int} (h:MapI w P k e κ b n g):b<w.heap.size:=by obtain ⟨D,h1,_⟩:=h;exact h1.lt
theorem MapI.block {g:α→Option Int} (h:MapI w P k e κ b n g) {w':World} (hb:w'.heap[b]?=w.heap[b]?):MapI w' P k e κ b n g:=by
 obtain ⟨D,h1,h2⟩:=h
 exact ⟨D,own_block h1 hb,h2⟩
theorem MapI.mono {g:α→Option Int} (h:MapI w P k e κ b n g) {B:Nat} {w':World} (hb:Below B w w') (hlt:b<B):MapI w' P k e κ b n g:=h.block (hb.block b hlt)
theorem MapI.made:MapI (w.alloc (.map #[] 0)) P k e κ w.heap.size 0 (fun _=>none):=⟨_,World.ownsMap_made _ _ _ _,fun _=>⟨rfl,fun _ h=>by cases h⟩⟩
end
section
variable {α:Type} [DecidableEq α] {P:Program} (w:World) {ops:Array Oper} {rest:List Oper} {o:Oper} {a:Act} {Q:Exit→Act→World→Prop}
theorem wpList_putI (hg:o.guard=none) (m x v:Operand) (t:TypeId) (hop:o.op=Op.mapUpdate t m x v) (k e:TypeId) (K:Keyed P k) (ht:P.underlying t=some (.map k e)) (he:P.underlying e=some (.int .i64))
  (κ:α→Lit) (hinj:∀x y,κ x=κ y→x=y) (b n:Nat) (g:α→Option Int) (hm:a.eval m = .map (some b)) (h:MapI w P k e κ b n g) (hn:n<maxLen) (key:Value) (y:α) (c:Int) (hx:a.eval x=key) (hv:a.eval v = .int .i64 c)
  (hkey:keyOf P k key=some (κ y)) (hwf:(Lit.int .i64 c).wf=true)
  (hK:∀w',MapI w' P k e κ b (n+1) (fun z=>if z=y then some c else g z)→w.grownBy w' (some b)→wpList P ops Q rest (a.put o.dst undef) w') :
  wpList P ops Q (o :: rest) a w:=by
 obtain ⟨D,h1,h2⟩:=h
 refine wpList_mapUpdate_own w hg m x v t hop k e K ht (plainElem P e) b n D hm h1 hn key (.int .i64 c) (κ y) hx hv hkey (.lit (.int .i64 c)) [] (plainElem_int he hwf) (fun w' h3 h4=>hK w' ⟨_,h3,fun z=>?_⟩ h4)
 by_cases e1:z=y
 ·subst e1
  dsimp only
  rw[if_pos rfl]
  exact ⟨has_put_same h1.isMap (K.key hkey) _,fun c2 e2 z2=>by cases e2;exact atKey_put_same h1.isMap (K.key hkey) _ _⟩
 ·dsimp only
  rw[if_neg e1,has_put_other (fun e2=>e1 (hinj _ _ e2))]
  exact ⟨(h2 z).1,fun c2 e2 z2=>by rw[atKey_put_other (fun e3=>e1 (hinj _ _ e3))];exact (h2 z).2 c2 e2 z2⟩
end
section
variable {α:Type} {P:Program} (w:World) {ops:Array Oper} {rest:List Oper} {o:Oper} {a:Act} {Q:Exit→Act→World→Prop}
theorem wpList_lookI (hg:o.guard=none) (m x:Operand) (t:TypeId) (hop:o.op=Op.lookup t m x true) (k e:TypeId) (K:Keyed P k) (ht:P.underlying t=some (.map k e)) (he:P.underlying e=some (.int .i64)) (hz:(zeroValue e).run P w = .ok (.int .i64 0) w)
  (κ:α→Lit) (b n:Nat) (g:α→Option Int) (hm:a.eval m = .map (some b)) (h:MapI w P k e κ b n g) (key:Value) (y:α) (hx:a.eval x=key) (hkey:keyOf P k key=some (κ y))
  (hK:wpList P ops Q rest (a.put o.dst (.tuple #[.int .i64 ((g y).getD 0),.bool (g y).isSome])) w) :
  wpList P ops Q (o :: rest) a w:=by
 obtain ⟨D,h1,h2⟩:=h
 refine wpList_lookup_own_ok_int w hg m x t hop k e .i64 K ht he hz b n D hm h1 key (κ y) hx hkey (fun c h3 _=>?_)
 rw[(h2 y).1]
 cases hgy:g y with
 | some d =>
  rw[(h2 y).2 d hgy] at h3
  cases h3
  rw[hgy] at hK
  exact hK
 | none =>
  have h4:has D (κ y)=false:=by rw[(h2 y).1,hgy];rfl
  rw[atKey_of_not_has h4] at h3
  cases h3
  rw[hgy] at hK
  exact hK
end
end
end Go.Proofs.Ytpkghjoippcjeaa
