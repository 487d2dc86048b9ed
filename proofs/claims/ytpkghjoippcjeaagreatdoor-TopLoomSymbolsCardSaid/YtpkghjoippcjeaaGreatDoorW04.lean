/- Texts D1 to H2 of this proof, in one file. -/
import Derived.Test.YtpkghjoippcjeaaGreatDoorW01
import Derived.Test.YtpkghjoippcjeaaGreatDoorW02
import Derived.Test.YtpkghjoippcjeaaGreatDoorW03
import Derived.Lib.BitFns
import Derived.Lib.Strings
import Derived.Lib.Small
import Derived.Laws.Bits128
import Derived.Deep.CutBlock
import Derived.Deep.CutRange
import Derived.Laws.EntriesVeiled
namespace Go.Proofs.YtpkghjoippcjeaaGreatDoor
set_option maxRecDepth 100000
set_option maxHeartbeats 16000000
section
open Go Go.RowKit
attribute [local go_sem] over_cell
end
section
open Go Go.RowKit
attribute [local go_sem] over_cell
theorem GoodTask.nodup {cells:Int} {ls:List (List Int)} {sum:Int} {g:List Int} (h:GoodTask cells ls sum g) {l:List Int} (hl:l∈ls):l.Nodup:=by
 refine List.pairwise_iff_getElem.2 fun i j hi hj hij e=>?_
 have h1:=h.step hl i (j - i) (by omega)
 rw[show i+(j - i)=j from by omega,List.getElem?_eq_getElem hi,List.getElem?_eq_getElem hj] at h1
 simp only[Option.getD_some] at h1
 omega
end
section
open Go Go.RowKit
attribute [local go_sem] over_cell
attribute [local go_sem] Oper.semAt_some
end
section
open Go Go.RowKit
attribute [local go_sem] over_cell
attribute [local go_sem] Oper.semAt_some
theorem SetC.keep {w w':World} {b off M:Nat} (h:SetC w b off M) (hb:b<w.heap.size) (hB:Below w.heap.size w w'):SetC w' b off M:=fun q hq=>((bcell hB).1 _ _ hb).trans (h q hq)
end
section
open Go
def s1 (b:Nat):Nat:=(b / 2 &&& 85)+(b &&& 85)
def s2 (b:Nat):Nat:=(b / 4 &&& 51)+(b &&& 51)
def s3 (b:Nat):Nat:=(b / 16+b) &&& 15
def f5 (x:Nat):Nat:=x+x / 65536
end
section
open Go Go.RowKit
attribute [local go_sem] over_cell
attribute [local go_sem] Oper.semAt_some
end
section
open Go Go.RowKit
attribute [local go_sem] over_cell
attribute [local go_sem] Oper.semAt_some
def SL (w:World) (a:Option Addr) (n:Nat) (Ms:List Nat):Prop :=
 (Ms.length=n∧n≤4398046511104)∧∀k,k<n→∃b off,a=some ⟨b,off,none⟩∧b<w.heap.size∧SetC w b (off+k*4) (Ms[k]?.getD 0)
theorem SL.mono {w w':World} {a:Option Addr} {n:Nat} {Ms:List Nat} (h:SL w a n Ms) (hb:Below w.heap.size w w'):SL w' a n Ms :=
 ⟨h.1,fun k hk=>by
  obtain ⟨b,off,e,hlt,hc⟩:=h.2 k hk
  exact ⟨b,off,e,Nat.lt_of_lt_of_le hlt hb.size,hc.keep hlt hb⟩⟩
end
section
open Go Go.RowKit
attribute [local go_sem] over_cell
attribute [local go_sem] Oper.semAt_some
end
section
open Go Go.RowKit
attribute [local go_sem] over_cell
end
section
open Go Go.RowKit
section
variable {P:Program} {ops:Array Oper} {Q:Exit→Act→World→Prop} {md:Region.Mode} {S:World→Prop} {late:Nat→Bool}
theorem wpL_firstW {i:Nat} {oi:Oper} {v:Value} (hi:ops[i]?=some oi) (hsel:∀(j:Nat) (o:Oper) cs b,ops[j]?=some o→o.op ≠ .select cs b)
  (hQ:∀c a w,Q (.panic c) (a.put oi.dst v) w→Q (.panic c) a w) (hl:late i=true) :
  ∀(fuel:Nat) (listed:Array Bool) (a:Act) (w:World),Closed md ops listed →
   (∀j oj,ops[j]?=some oj→j≠i→listed.getD j true=false→(∀e∈oj.after,Region.binds md e=true→e.on≠i)→oi.apart ops oj=true) →
   i∈Region.ready md ops listed→YieldsIf P ops (fun _=>True) oi v a →
   wpL P md ops Q S late fuel (listed.setIfInBounds i true) (a.put oi.dst v) w→wpL P md ops Q S late (fuel+1) listed a w:=by
 intro fuel
 induction fuel with
 | zero =>
  intro listed a w hcl hfree hr hy H
  refine ⟨fun h=>(by rw[h] at hr;cases hr),fun j hj=>?_⟩
  by_cases hji:j=i
  ·subst hji;exact hy.wpOp hi trivial ⟨fun h=>(by rw[hl] at h;cases h),H⟩
  ·have:=ready_mono hj hji
   rw[H.1] at this
   cases this
 | succ fuel ih =>
  intro listed a w hcl hfree hr hy H
  refine ⟨fun h=>(by rw[h] at hr;cases hr),fun j hj=>?_⟩
  by_cases hji:j=i
  ·subst hji;exact hy.wpOp hi trivial ⟨fun h=>(by rw[hl] at h;cases h),H⟩
  ·have h1:=H.2 j (ready_mono hj hji)
   obtain ⟨hjun,oj,hoj,hall⟩:=mem_ready.1 hj
   have hnot:∀e∈oj.after,Region.binds md e=true→e.on≠i:=fun e he hb heq=>by
    have h1:=hall e he hb
    have h0:=(mem_ready.1 hr).1
    rw[heq] at h1
    rcases Nat.lt_or_ge i listed.size with h'|h'
    ·simp[h'] at h0 h1;rw[h0] at h1;cases h1
    ·simp[Array.getElem?_eq_none h'] at h1
   have h2:=wpOp_putIf hoj (hfree j oj hoj hji hjun hnot) (fun cs b=>hsel i oi cs b hi) (fun cs b=>hsel j oj cs b hoj) hQ hy h1
   have hfree':∀k ok,ops[k]?=some ok→k≠i→(listed.setIfInBounds j true).getD k true=false →
     (∀e∈ok.after,Region.binds md e=true→e.on≠i)→oi.apart ops ok=true:=fun k ok hk hki hun hno=>by
    refine hfree k ok hk hki ?_ hno
    by_cases hjk:j=k
    ·subst hjk;exact hjun
    ·rw[getD_set_ne true hjk] at hun;exact hun
   refine wpOp_mono (fun a' w' h3=>⟨h3.2.1,ih (listed.setIfInBounds j true) a' w' (hcl.set hj) hfree' (ready_mono hr (Ne.symm hji)) h3.1 ?_⟩) h2
   rw[Array.setIfInBounds_comm _ _ hji]
   exact h3.2.2
def Has (listed:Array Bool) (pre:List Nat):Prop:=∀p∈pre,listed.getD p false=true
theorem Has.set {listed:Array Bool} {pre:List Nat} (h:Has listed pre) (j:Nat):Has (listed.setIfInBounds j true) pre:=fun p hp=>getD_set_true (h p hp)
theorem wpL_firstP {pre:List Nat} {i:Nat} {oi:Oper} {v:Value} (hi:ops[i]?=some oi) (hsel:∀(j:Nat) (o:Oper) cs b,ops[j]?=some o→o.op ≠ .select cs b)
  (hQ:∀c a w,Q (.panic c) (a.put oi.dst v) w→Q (.panic c) a w)
  (hlate:∀j listed,Has listed pre→late j=true→Closed md ops listed→j∈Region.ready md ops listed→listed.getD i false=true) :
  ∀(fuel:Nat) (listed:Array Bool) (a:Act) (w:World),Has listed pre→Closed md ops listed →
   (∀j oj,ops[j]?=some oj→j≠i→listed.getD j true=false→(∀e∈oj.after,Region.binds md e=true→e.on≠i)→oi.apart ops oj=true) →
   i∈Region.ready md ops listed→YieldsIf P ops S oi v a→S w →
   wpL P md ops Q S late fuel (listed.setIfInBounds i true) (a.put oi.dst v) w→wpL P md ops Q S late (fuel+1) listed a w:=by
 intro fuel
 induction fuel with
 | zero =>
  intro listed a w hp hcl hfree hr hy hS H
  refine ⟨fun h=>(by rw[h] at hr;cases hr),fun j hj=>?_⟩
  by_cases hji:j=i
  ·subst hji;exact hy.wpOp hi hS ⟨fun _=>hS,H⟩
  ·have:=ready_mono hj hji
   rw[H.1] at this
   cases this
 | succ fuel ih =>
  intro listed a w hp hcl hfree hr hy hS H
  refine ⟨fun h=>(by rw[h] at hr;cases hr),fun j hj=>?_⟩
  by_cases hji:j=i
  ·subst hji;exact hy.wpOp hi hS ⟨fun _=>hS,H⟩
  ·have h1:=H.2 j (ready_mono hj hji)
   obtain ⟨hjun,oj,hoj,hall⟩:=mem_ready.1 hj
   have hnot:∀e∈oj.after,Region.binds md e=true→e.on≠i:=fun e he hb heq=>by
    have h1:=hall e he hb
    have h0:=(mem_ready.1 hr).1
    rw[heq] at h1
    rcases Nat.lt_or_ge i listed.size with h'|h'
    ·simp[h'] at h0 h1;rw[h0] at h1;cases h1
    ·simp[Array.getElem?_eq_none h'] at h1
   have hjl:late j=false:=by
    cases hl:late j with
    | false=>rfl
    | true =>
     have h1:=hlate j listed hp hl hcl hj
     have h0:=(mem_ready.1 hr).1
     rcases Nat.lt_or_ge i listed.size with h'|h'
     ·simp[h'] at h0 h1;rw[h0] at h1;cases h1
     ·simp[Array.getElem?_eq_none h'] at h1
   have h2:=wpOp_putIf hoj (hfree j oj hoj hji hjun hnot) (fun cs b=>hsel i oi cs b hi) (fun cs b=>hsel j oj cs b hoj) hQ hy h1
   have hfree':∀k ok,ops[k]?=some ok→k≠i→(listed.setIfInBounds j true).getD k true=false →
     (∀e∈ok.after,Region.binds md e=true→e.on≠i)→oi.apart ops ok=true:=fun k ok hk hki hun hno=>by
    refine hfree k ok hk hki ?_ hno
    by_cases hjk:j=k
    ·subst hjk;exact hjun
    ·rw[getD_set_ne true hjk] at hun;exact hun
   refine wpOp_mono (fun a' w' h3=>⟨h3.2.1,ih (listed.setIfInBounds j true) a' w' (hp.set j) (hcl.set hj) hfree' (ready_mono hr (Ne.symm hji)) h3.1 (h3.2.1 hjl) ?_⟩) h2
   rw[Array.setIfInBounds_comm _ _ hji]
   exact h3.2.2
def wpF (P:Program) (ops:Array Oper) (K:Act→Prop):List Oper→Act→Prop
 | [],a=>K a
 | o :: r,a=>if Region.wanted o (yielded ops a.tmps) then ∃v,(∀w',(execOp a.eval o).run P w' = .ok (.value v) w')∧wpF P ops K r (a.put o.dst v) else wpF P ops K r (a.put o.dst undef)
def pickF (l:List Oper):List Nat→List Oper
 | []=>[]
 | i :: r=>match nthOp l i with
  | some o=>o :: pickF l r
  | none=>[]
def preOk (md:Region.Mode) (ops:Array Oper):List Nat→Array Bool→Bool
 | [],_=>true
 | i :: r,listed=>(Region.ready md ops listed).contains i&&Region.free md ops listed i&&preOk md ops r (listed.setIfInBounds i true)
def preSet:List Nat→Array Bool→Array Bool
 | [],listed=>listed
 | i :: r,listed=>preSet r (listed.setIfInBounds i true)
theorem preSet_has:∀(r:List Nat) (listed:Array Bool),preOk md ops r listed=true→Has (preSet r listed) r∧∀pre,Has listed pre→Has (preSet r listed) pre
 | [],listed,_=>⟨fun p hp=>(by cases hp),fun pre h=>h⟩
 | i :: r,listed,hc=>by
  simp only[preOk,Bool.and_eq_true] at hc
  obtain ⟨⟨hr,hf⟩,hc'⟩:=hc
  have ih:=preSet_has r _ hc'
  have hi:(listed.setIfInBounds i true).getD i false=true:=by
   obtain ⟨h1,oi,hoi,_⟩:=(mem_ready (md:=md) (ops:=ops) (listed:=listed) (j:=i)).1 (by simpa using hr)
   rcases Nat.lt_or_ge i listed.size with h'|h'
   ·simp[h']
   ·simp[Array.getElem?_eq_none h'] at h1
  refine ⟨fun p hp=>?_,fun pre h=>ih.2 pre (h.set i)⟩
  rcases List.mem_cons.1 hp with e|e
  ·subst e
   exact ih.2 [p] (fun q hq=>by obtain rfl:q=p:=(by simpa using hq);exact hi) p (by simp)
  ·exact ih.1 p e
theorem wpL_of_F (hs:Region.noSelect ops=true) (hQ:∀c a d v w,Q (.panic c) (Act.put a d v) w→Q (.panic c) a w) (fuel:Nat) :
  ∀(pre:List Nat) (listed:Array Bool) (a:Act) (w:World),(∀p∈pre,late p=true)→Closed md ops listed→preOk md ops pre listed=true →
   wpF P ops (fun a'=>wpL P md ops Q S late fuel (preSet pre listed) a' w) (pickF ops.toList pre) a→wpL P md ops Q S late (fuel+pre.length) listed a w∧Closed md ops (preSet pre listed)
 | [],listed,a,w,_,hcl,_,h=>⟨h,hcl⟩
 | i :: r,listed,a,w,hl,hcl,hc,h=>by
  simp only[preOk,Bool.and_eq_true] at hc
  obtain ⟨⟨hr,hf⟩,hc'⟩:=hc
  have hr':i∈Region.ready md ops listed:=by simpa using hr
  obtain ⟨oi,hoi⟩:∃oi,ops[i]?=some oi:=by
   obtain ⟨_,oi,h1,_⟩:=(mem_ready (md:=md) (ops:=ops) (listed:=listed) (j:=i)).1 hr'
   exact ⟨oi,h1⟩
  have hp:nthOp ops.toList i=some oi:=by rw[nthOp_eq];simpa using hoi
  simp only[pickF,hp,wpF] at h
  have key:∀v,YieldsIf P ops (fun _=>True) oi v a→wpF P ops (fun a'=>wpL P md ops Q S late fuel (preSet r (listed.setIfInBounds i true)) a' w) (pickF ops.toList r) (a.put oi.dst v)→wpL P md ops Q S late (fuel+(r.length+1)) listed a w∧Closed md ops (preSet (i :: r) listed):=by
   intro v hy hK
   have ih:=wpL_of_F hs hQ fuel r _ _ w (fun p hp=>hl p (by simp[hp])) (hcl.set hr') hc' hK
   exact ⟨wpL_firstW hoi (Region.noSelect_spec hs) (fun c a' w'=>hQ c a' _ _ w') (hl i (by simp)) (fuel+r.length) listed a w hcl (Region.free_spec hoi hf) hr' hy ih.1,ih.2⟩
  by_cases hw:Region.wanted oi (yielded ops a.tmps)=true
  ·rw[if_pos hw] at h
   obtain ⟨v,hv,hK⟩:=h
   exact key v (.inl ⟨hw,fun w' _=>hv w'⟩) hK
  ·rw[if_neg hw] at h
   exact key undef (.inr ⟨by simpa using hw,rfl⟩) h
theorem wpL_of_T (hs:Region.noSelect ops=true) (lt pre:List Nat) (hQ:∀c a d v w,Q (.panic c) (Act.put a d v) w→Q (.panic c) a w) :
  ∀(seq:List (Nat × Nat)) (listed:Array Bool) (a:Act) (w:World),Has listed pre→Closed md ops listed→((∃x∈seq,x.1≤1)→S w) →
   seqOk md ops lt seq listed=true→wpS P ops S Q (pickOps ops.toList seq) a w→wpL P md ops Q S (fun i=>lt.contains i||pre.contains i) seq.length listed a w
 | [],listed,a,w,_,_,_,hc,h=>⟨by simpa [seqOk] using hc,by simpa only[pickOps,wpS] using h⟩
 | (0,i) :: r,listed,a,w,hh,hcl,hS,hc,h=>by
  have hSw:S w:=hS ⟨_,List.mem_cons_self,Nat.zero_le _⟩
  simp only[seqOk,Bool.and_eq_true] at hc
  obtain ⟨⟨⟨⟨hr,hf⟩,hnl⟩,hla⟩,hc'⟩:=hc
  obtain ⟨oi,hoi⟩:∃oi,ops[i]?=some oi:=by
   have:=(mem_ready (md:=md) (ops:=ops) (listed:=listed) (j:=i)).1 (by simpa using hr)
   obtain ⟨_,oi,h1,_⟩:=this
   exact ⟨oi,h1⟩
  have hp:nthOp ops.toList i=some oi:=by rw[nthOp_eq];simpa using hoi
  have hlate:∀j listed,Has listed pre→(lt.contains j||pre.contains j)=true→Closed md ops listed→j∈Region.ready md ops listed→listed.getD i false=true:=by
   intro j listed' hp' hl hcl' hj
   rcases Bool.or_eq_true _ _▸hl with hl|hl
   ·have h1:=List.all_eq_true.1 hla j (by simpa using hl)
    exact closure_listed hcl' _ _ (ready_afters hj) i (by simpa using h1)
   ·have h1:=hp' j (by simpa using hl)
    have h0:=(mem_ready.1 hj).1
    rcases Nat.lt_or_ge j listed'.size with h'|h'
    ·simp[h'] at h0 h1;rw[h0] at h1;cases h1
    ·simp[Array.getElem?_eq_none h'] at h1
  simp only[pickOps,hp,wpS] at h
  have key:∀v,YieldsIf P ops S oi v a→wpS P ops S Q (pickOps ops.toList r) (a.put oi.dst v) w→wpL P md ops Q S (fun i=>lt.contains i||pre.contains i) (r.length+1) listed a w:=by
   intro v hy hK
   exact wpL_firstP (pre:=pre) hoi (Region.noSelect_spec hs) (fun c a' w'=>hQ c a' _ _ w') hlate r.length listed a w hh hcl (Region.free_spec hoi hf) (by simpa using hr) hy hSw
    (wpL_of_T hs lt pre hQ r _ _ w (hh.set i) (hcl.set (by simpa using hr)) (fun _=>hSw) hc' hK)
  by_cases hw:Region.wanted oi (yielded ops a.tmps)=true
  ·rw[if_pos hw] at h
   obtain ⟨v,hv,hK⟩:=h
   exact key v (.inl ⟨hw,hv⟩) hK
  ·rw[if_neg hw] at h
   exact key undef (.inr ⟨by simpa using hw,rfl⟩) h
 | (1,i) :: r,listed,a,w,hh,hcl,hS,hc,h=>by
  have hSw:S w:=hS ⟨_,List.mem_cons_self,Nat.le_refl _⟩
  simp only[seqOk,Bool.and_eq_true,beq_iff_eq] at hc
  obtain ⟨hr,hc'⟩:=hc
  obtain ⟨oi,hoi⟩:∃oi,ops[i]?=some oi:=by
   obtain ⟨_,oi,h1,_⟩:=(mem_ready (md:=md) (ops:=ops) (listed:=listed) (j:=i)).1 (by rw[hr];simp)
   exact ⟨oi,h1⟩
  have hp:nthOp ops.toList i=some oi:=by rw[nthOp_eq];simpa using hoi
  simp only[pickOps,hp,wpS] at h
  refine ⟨fun h0=>absurd (hr▸h0) (by simp),fun j hj=>?_⟩
  rw[hr] at hj
  obtain rfl:j=i:=by simpa using hj
  refine wpOp_of_if hoi ?_
  split
  ·rename_i hw
   rw[if_pos hw] at h
   exact h.imp (Oper.wp_mono fun a' w' hk=>⟨fun _=>hk.1,wpL_of_T hs lt pre hQ r _ a' w' (hh.set j) (hcl.set (by rw[hr];simp)) (fun _=>hk.1) hc' hk.2⟩) id
  ·rename_i hw
   rw[if_neg hw] at h
   exact ⟨fun _=>hSw,wpL_of_T hs lt pre hQ r _ _ w (hh.set j) (hcl.set (by rw[hr];simp)) (fun _=>hSw) hc' h⟩
 | (n+2,i) :: r,listed,a,w,hh,hcl,hS,hc,h=>by
  simp only[seqOk,Bool.and_eq_true,beq_iff_eq] at hc
  obtain ⟨⟨⟨hr,hl⟩,hno⟩,hc'⟩:=hc
  obtain ⟨oi,hoi⟩:∃oi,ops[i]?=some oi:=by
   obtain ⟨_,oi,h1,_⟩:=(mem_ready (md:=md) (ops:=ops) (listed:=listed) (j:=i)).1 (by rw[hr];simp)
   exact ⟨oi,h1⟩
  have hp:nthOp ops.toList i=some oi:=by rw[nthOp_eq];simpa using hoi
  simp only[pickOps,hp,wpS] at h
  refine ⟨fun h0=>absurd (hr▸h0) (by simp),fun j hj=>?_⟩
  rw[hr] at hj
  obtain rfl:j=i:=by simpa using hj
  have hnoz:¬∃x∈r,x.1≤1:=by
   rintro ⟨x,hx,h0⟩
   have:=List.all_eq_true.1 hno x hx
   simp at this
   omega
  refine wpOp_of_if hoi ?_
  split
  ·rename_i hw
   rw[if_pos hw] at h
   exact h.imp (Oper.wp_mono fun a' w' hk=>⟨fun h0=>by rw[show (fun i=>lt.contains i||pre.contains i) j=(lt.contains j||pre.contains j) from rfl,hl] at h0;exact absurd h0 (by simp),wpL_of_T hs lt pre hQ r _ a' w' (hh.set j) (hcl.set (by rw[hr];simp)) (fun hz=>absurd hz hnoz) hc' hk⟩) id
  ·rename_i hw
   rw[if_neg hw] at h
   exact ⟨fun h0=>by rw[show (fun i=>lt.contains i||pre.contains i) j=(lt.contains j||pre.contains j) from rfl,hl] at h0;exact absurd h0 (by simp),wpL_of_T hs lt pre hQ r _ _ w (hh.set j) (hcl.set (by rw[hr];simp)) (fun hz=>absurd hz hnoz) hc' h⟩
theorem wp_region_T {id:Nat} {l:List Oper} {a:Act} {w:World} (S:World→Prop) (pre lt:List Nat) (seq:List (Nat × Nat))
  (hm:P.follows .mixedOrders=true) (hc:(Region.noSelect l.toArray&&decide (seq.length+pre.length≤l.length)&&preOk .any l.toArray pre (Array.replicate l.length false)&&seqOk .any l.toArray lt seq (preSet pre (Array.replicate l.length false)))=true)
  (hS:S w.drew)
  (h:wpF P l.toArray (fun a'=>wpS P l.toArray S (NoPanic Q) (pickOps l seq) a' w.drew) (pickF l pre) a):(Code.region id l.toArray true).wp P Q a w:=by
 refine wp_region_noPanic ?_
 simp only[Bool.and_eq_true,decide_eq_true_eq] at hc
 obtain ⟨⟨⟨hs,hlen⟩,hp⟩,hc⟩:=hc
 refine wp_region_any hm ?_
 obtain ⟨m,hm'⟩:∃m,l.toArray.size=(seq.length+pre.length)+m:=⟨l.length - (seq.length+pre.length),by simp;omega⟩
 rw[hm']
 refine wpAny_more _ _ _ _ _ (wpAny_of_L (S:=S) (late:=fun i=>lt.contains i||pre.contains i) _ _ _ _ ?_)
 have e:Array.replicate (seq.length+pre.length+m) false=Array.replicate l.length false:=by rw[← hm'];simp
 rw[e]
 have hh:=(preSet_has (md := .any) (ops:=l.toArray) pre (Array.replicate l.length false) hp).1
 have hcl0:Closed .any l.toArray (Array.replicate l.length false):=closed_none _
 have hQ:∀c a d v w,NoPanic Q (.panic c) (Act.put a d v) w→NoPanic Q (.panic c) a w:=fun _ _ _ _ _ h=>h
 have hmono:∀(os:List Oper) (a:Act) (K K':Act→Prop),(∀a',K a'→K' a')→wpF P l.toArray K os a→wpF P l.toArray K' os a:=by
  intro os
  induction os with
  | nil=>intro a K K' hk h;exact hk a h
  | cons o r ih =>
   intro a K K' hk h
   simp only[wpF] at h ⊢
   split
   ·rename_i hw
    rw[if_pos hw] at h
    obtain ⟨v,hv,h⟩:=h
    exact ⟨v,hv,ih _ K K' hk h⟩
   ·rename_i hw
    rw[if_neg hw] at h
    exact ih _ K K' hk h
 have hcl:Closed .any l.toArray (preSet pre (Array.replicate l.length false)):=by
  have hgen:∀(pre:List Nat) (listed:Array Bool),Closed .any l.toArray listed→preOk .any l.toArray pre listed=true→Closed .any l.toArray (preSet pre listed):=by
   intro pre
   induction pre with
   | nil=>intro listed h _;exact h
   | cons i r ih =>
    intro listed h hc
    simp only[preOk,Bool.and_eq_true] at hc
    exact ih _ (h.set (by simpa using hc.1.1)) hc.2
  exact hgen pre _ hcl0 hp
 exact (wpL_of_F hs hQ seq.length pre _ a w.drew (fun p hp=>by simp[hp]) hcl0 hp (hmono _ _ _ _ (fun a' h'=>wpL_of_T hs lt pre hQ seq _ a' w.drew hh hcl (fun _=>hS) hc h') h)).1
theorem wpF_quiet {K:Act→Prop} {a:Act} {o:Oper} {r:List Oper} (hp:plainOp o=true) (hw:Region.wanted o (yielded ops a.tmps)=true)
  (h:∀K':Act→Prop,(∀a',wpF P ops K r a'→K' a')→o.quiet P a (fun _=>True) K'):wpF P ops K (o :: r) a:=by
 simp only[wpF,hw,if_true]
 obtain ⟨v,hv,hK⟩:=h (fun a'=>wpF P ops K r a') (fun _ h=>h)
 refine ⟨v,fun w'=>?_,hK⟩
 have hq:=hv w' trivial
 unfold Oper.quietAt at hq
 cases hr:(execOp a.eval o).run P w' with
 | halt x w1=>rw[hr] at hq;exact hq.elim
 | ok n w1 =>
  obtain ⟨u,rfl⟩:=plain_value hp _ hr
  rw[hr] at hq
  obtain ⟨rfl,rfl⟩:=hq
  rfl
theorem wpF_skip {K:Act→Prop} {a:Act} {dst:Option Tmp} {op:Op} {ty:TypeId} {pos:String} {after:Array Edge} {g:Option (Nat × Bool)} {r:List Oper}
  (hw:Region.wanted (Oper.mk dst op ty pos after g) (yielded ops a.tmps)=false)
  (h:∀K':Act→Prop,(∀a',wpF P ops K r a'→K' a')→(Oper.mk dst (.move (.const undef)) ty pos after none).quiet P a (fun _=>True) K'):wpF P ops K (Oper.mk dst op ty pos after g :: r) a:=by
 obtain ⟨v,hv,hK⟩:=h (fun a'=>wpF P ops K r a') (fun _ h=>h)
 have hq:=hv default trivial
 have:v=undef:=by
  simp[Oper.quietAt,execOp,Sem.run_pure,Oper.quietUpon] at hq
  exact hq.symm
 subst this
 simp only[wpF,hw]
 exact hK
theorem wpF_end {K:Act→Prop} {a:Act} (h:K a):wpF P ops K [] a:=h
attribute [irreducible] wpF
end
end
section
open Go Go.RowKit
end
end Go.Proofs.YtpkghjoippcjeaaGreatDoor
