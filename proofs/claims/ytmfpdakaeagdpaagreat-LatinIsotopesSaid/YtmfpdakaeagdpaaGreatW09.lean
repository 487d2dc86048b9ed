/- Texts RegI to J33 of this proof, in one file. -/
import Derived.Test.YtmfpdakaeagdpaaGreatW01
import Derived.Test.YtmfpdakaeagdpaaGreatW02
import Derived.Test.YtmfpdakaeagdpaaGreatW03
import Derived.Test.YtmfpdakaeagdpaaGreatW04
import Derived.Test.YtmfpdakaeagdpaaGreatW05
import Derived.Test.YtmfpdakaeagdpaaGreatW06
import Derived.Test.YtmfpdakaeagdpaaGreatW07
import Derived.Test.YtmfpdakaeagdpaaGreatW08
import Derived.Below
import Derived.BigFrame
import Derived.BigQuiet
import Derived.Deep.CutBlock
import Derived.Deep.CutRange
import Derived.Deep.LoopGhost
import Derived.Deep.Quiet
import Derived.Deep.RegionHeld3
import Derived.DeepKeys4
import Derived.KernelRfl
import Derived.Laws.BitsAllLaws
import Derived.Lib.Hide
import Derived.Lib.SliceRun
import Derived.LoopIn
import Derived.LoopNIn
import Derived.Maps.AppendAt
import Derived.Maps.OwnIn
import Derived.Maps.OwnSet
import Derived.OneCell
import Derived.OrdersHeld
import Derived.OrdersIn
import Derived.OwnWalkIn
import Derived.RangeFuncBound
import Derived.RangeFuncCalls
import Derived.RangeFuncLeaves
import Derived.RangeFuncNested
import Derived.Shelf.Abstract
import Derived.Still
import Derived.TacticsIn
import Derived.TacticsInMore
import Derived.Test.YtmfpdakaeagdpaaGreatProg
import Derived.WalkKit
import Derived.WalkLawsBesides
import Derived.WalkSpells
import Derived.WideKeyPair
namespace Go.Proofs.YtmfpdakaeagdpaaGreat
set_option maxRecDepth 100000
set_option maxHeartbeats 16000000
section
open Go Go.RowKit
section
variable {P:Program} {ops:Array Oper} {Q:Exit→Act→World→Prop} {md:Region.Mode} {n:Nat} {S:World→Prop} {late:Nat→Bool}
theorem upon_to_W {o:Oper} {a:Act} {next:Act→World→Prop} {r:Result Next} (h:o.upon P a next Q r):o.uponIn Fence.wide n P a next Q r:=by
 cases r with
 | ok x w =>
  cases x <;> simp only[Oper.upon] at h <;> first|exact h|exact h.elim|skip
  ·exact ⟨fun e=>absurd e (by simp[Fence.wide]),callsIn_wide.2 h⟩
  ·refine ⟨fun e=>absurd e (by simp[Fence.wide]),fun c cs _=>?_⟩
   obtain ⟨v,w',hr,hs⟩:=h c cs
   exact ⟨v,w',hr,stepsIn_wide.2 hs⟩
 | halt x w =>
  cases x <;> simp only[Oper.upon] at h <;> first|exact h|exact h.elim
theorem yieldsW {i:Nat} {o:Oper} {v:Value} {a:Act} (hi:ops[i]?=some o) (hy:YieldsIf P ops S o v a)
  {K:Act→World→Prop} {w:World} (hS:S w) (h:K (a.put o.dst v) w):wpOpIn Fence.wide n P ops Q i K a w:=by
 unfold Go.wpOpIn
 simp only[hi]
 rcases hy with ⟨hw,hv⟩|⟨hw,rfl⟩
 ·simp only[hw,if_true,Oper.wpIn,show Fence.wide.round=none from rfl,Oper.semAt_none,hv w hS,Oper.uponIn];exact ⟨fun _ _=>trivial,h⟩
 ·simp only[hw,Bool.false_eq_true,if_false];exact ⟨fun _ _=>trivial,h⟩
theorem wpOpW_put {j:Nat} {oi oj:Oper} {v:Value} (hj:ops[j]?=some oj) (hap:oi.apart ops oj=true)
  (hsi:∀cs b,oi.op ≠ .select cs b) (hsj:∀cs b,oj.op ≠ .select cs b)
  (hQ:∀c a w,Q (.panic c) (a.put oi.dst v) w→Q (.panic c) a w) {K:Act→World→Prop} {a:Act} {w:World}
  (hy:YieldsIf P ops S oi v a) (h:wpOpIn Fence.wide n P ops Q j K (a.put oi.dst v) w) :
  wpOpIn Fence.wide n P ops Q j (fun a' w'=>YieldsIf P ops S oi v a'∧K (a'.put oi.dst v) w') a w:=by
 obtain ⟨h1,h2,h3⟩:=Oper.apart_spec hap
 have keep:∀(a:Act),YieldsIf P ops S oi v a→∀u,YieldsIf P ops S oi v (a.put oj.dst u):=fun a hy u =>
  hy.of_same (execOp_put oi hsi a oj.dst u h3) (wanted_put oi a oj.dst u h3)
 have keepD:∀d,YieldsIf P ops S oi v { a with defers:=d :: a.defers }:=fun d=>hy.of_same rfl rfl
 have hro:Fence.wide.round=none:=rfl
 unfold wpOpIn at *
 simp only[hj] at *
 rw[wanted_put oj a oi.dst v h1,about_put oj w a oi.dst v h1] at h
 split
 ·rename_i hw
  simp only[hw,if_true] at h
  unfold Oper.wpIn at *
  rw[about_put oj w a oi.dst v h1] at h
  refine ⟨h.1,?_⟩
  have h:=h.2
  rw[hro,Oper.semAt_none,execOp_put oj hsj a oi.dst v h1] at h
  rw[hro,Oper.semAt_none]
  generalize (execOp a.eval oj).run P w=r at *
  cases r with
  | ok x w' =>
   cases x <;> simp only[Oper.uponIn] at h ⊢
   case value u=>exact ⟨keep a hy u,by rw[← Act.put_comm a v u h2];exact h⟩
   case skip=>exact ⟨keep a hy _,by rw[← Act.put_comm a v undef h2];exact h⟩
   case defer d =>
    refine ⟨keep _ (keepD d) _,?_⟩
    rw[← Act.put_comm _ v undef h2,← Act.put_defers]
    exact h
   case enter f args =>
    refine ⟨h.1,CallsIn.mono h.2 fun e w'' he=>?_⟩
    cases e with
    | returned u=>exact ⟨keep a hy u,by rw[← Act.put_comm a v u h2];exact he⟩
    | panicked c=>exact hQ _ _ _ he
    | outgrown=>exact he
   case row row args=>exact ⟨h.1,RowsIn.mono h.2 fun u w'' he=>⟨keep a hy u,by rw[← Act.put_comm a v u h2];exact he⟩⟩
   case round l f tmps assign body =>
    refine ⟨h.1,RoundIn.mono h.2 fun e w'' he=>?_⟩
    cases e with
    | returned u=>exact ⟨keep a hy u,by rw[← Act.put_comm a v u h2];exact he⟩
    | panicked c=>exact hQ _ _ _ he
    | outgrown=>exact he
  | halt x w' =>
   cases x <;> simp only[Oper.uponIn] at h ⊢
   case panic u=>exact hQ _ _ _ h
 ·rename_i hw
  simp only[hw] at h
  exact ⟨h.1,keep a hy _,by rw[← Act.put_comm a v undef h2];exact h.2⟩
def wpLI (n:Nat) (P:Program) (md:Region.Mode) (ops:Array Oper) (Q:Exit→Act→World→Prop) (S:World→Prop) (late:Nat→Bool):Nat→Array Bool→Act→World→Prop
 | 0,listed,a,w=>Region.ready md ops listed=[]∧Q .normal a w
 | fuel+1,listed,a,w =>
  (Region.ready md ops listed=[]→Q .normal a w) ∧
  ∀i∈Region.ready md ops listed,wpOpIn Fence.wide n P ops Q i (fun a' w'=>(late i=false→S w')∧wpLI n P md ops Q S late fuel (listed.setIfInBounds i true) a' w') a w
theorem wpAnyIn_of_LI:∀(fuel:Nat) (listed:Array Bool) (a:Act) (w:World),wpLI n P md ops Q S late fuel listed a w→wpAnyIn Fence.wide n P md ops Q fuel listed a w
 | 0,_,_,_,h=>h
 | fuel+1,_,_,_,h=>⟨h.1,fun i hi=>wpOpIn_mono (fun a' w' h'=>wpAnyIn_of_LI fuel _ a' w' h'.2) (h.2 i hi)⟩
theorem wpLI_first {i:Nat} {oi:Oper} {v:Value} (hi:ops[i]?=some oi) (hsel:∀(j:Nat) (o:Oper) cs b,ops[j]?=some o→o.op ≠ .select cs b)
  (hQ:∀c a w,Q (.panic c) (a.put oi.dst v) w→Q (.panic c) a w) (hnl:late i=false)
  (hlate:∀j listed,late j=true→Closed md ops listed→j∈Region.ready md ops listed→listed.getD i false=true) :
  ∀(fuel:Nat) (listed:Array Bool) (a:Act) (w:World),Closed md ops listed →
   (∀j oj,ops[j]?=some oj→j≠i→listed.getD j true=false→(∀e∈oj.after,Region.binds md e=true→e.on≠i)→oi.apart ops oj=true) →
   i∈Region.ready md ops listed→YieldsIf P ops S oi v a→S w →
   wpLI n P md ops Q S late fuel (listed.setIfInBounds i true) (a.put oi.dst v) w→wpLI n P md ops Q S late (fuel+1) listed a w:=by
 intro fuel
 induction fuel with
 | zero =>
  intro listed a w hcl hfree hr hy hS H
  refine ⟨fun h=>(by rw[h] at hr;cases hr),fun j hj=>?_⟩
  by_cases hji:j=i
  ·subst hji;exact yieldsW hi hy hS ⟨fun _=>hS,H⟩
  ·have:=ready_mono hj hji
   rw[H.1] at this
   cases this
 | succ fuel ih =>
  intro listed a w hcl hfree hr hy hS H
  refine ⟨fun h=>(by rw[h] at hr;cases hr),fun j hj=>?_⟩
  by_cases hji:j=i
  ·subst hji;exact yieldsW hi hy hS ⟨fun _=>hS,H⟩
  ·have h1:=H.2 j (ready_mono hj hji)
   obtain ⟨hjun,oj,hoj,hall⟩:=mem_ready.1 hj
   have hnot:∀e∈oj.after,Region.binds md e=true→e.on≠i:=fun e he hb heq=>by
    have h1:=hall e he hb
    have h0:=(mem_ready.1 hr).1
    rw[heq] at h1
    rcases Nat.lt_or_ge i listed.size with h'|h'
    ·simp[h'] at h0 h1;rw[h0] at h1;cases h1
    ·simp[Array.getElem?_eq_none h'] at h1
   have hjl:late j=false:=by
    cases hl:late j with
    | false=>rfl
    | true =>
     have h1:=hlate j listed hl hcl hj
     have h0:=(mem_ready.1 hr).1
     rcases Nat.lt_or_ge i listed.size with h'|h'
     ·simp[h'] at h0 h1;rw[h0] at h1;cases h1
     ·simp[Array.getElem?_eq_none h'] at h1
   have h2:=wpOpW_put hoj (hfree j oj hoj hji hjun hnot) (fun cs b=>hsel i oi cs b hi) (fun cs b=>hsel j oj cs b hoj) hQ hy h1
   have hfree':∀k ok,ops[k]?=some ok→k≠i→(listed.setIfInBounds j true).getD k true=false →
     (∀e∈ok.after,Region.binds md e=true→e.on≠i)→oi.apart ops ok=true:=fun k ok hk hki hun hno=>by
    refine hfree k ok hk hki ?_ hno
    by_cases hjk:j=k
    ·subst hjk;exact hjun
    ·rw[getD_set_ne true hjk] at hun;exact hun
   refine wpOpIn_mono (fun a' w' h3=>⟨h3.2.1,ih (listed.setIfInBounds j true) a' w' (hcl.set hj) hfree' (ready_mono hr (Ne.symm hji)) h3.1 (h3.2.1 hjl) ?_⟩) h2
   rw[Array.setIfInBounds_comm _ _ hji]
   exact h3.2.2
def wpSI (n:Nat) (P:Program) (ops:Array Oper) (S:World→Prop) (Q:Exit→Act→World→Prop):List (Nat × Oper)→Act→World→Prop
 | [],a,w=>Q .normal a w
 | (0,o) :: r,a,w =>
  if Region.wanted o (yielded ops a.tmps) then ∃v,(∀w',S w'→(execOp a.eval o).run P w' = .ok (.value v) w')∧wpSI n P ops S Q r (a.put o.dst v) w
  else wpSI n P ops S Q r (a.put o.dst undef) w
 | (1,o) :: r,a,w =>
  if Region.wanted o (yielded ops a.tmps) then o.wp P a w (fun a' w'=>S w'∧wpSI n P ops S Q r a' w') Q∨(o.asks P a w∧LetsOut Q)
  else wpSI n P ops S Q r (a.put o.dst undef) w
 | (_,o) :: r,a,w =>
  if Region.wanted o (yielded ops a.tmps) then o.wpIn Fence.wide n P a w (fun a' w'=>wpSI n P ops S Q r a' w') Q
  else wpSI n P ops S Q r (a.put o.dst undef) w
theorem wpLI_of_S (hs:Region.noSelect ops=true) (hlo:¬LetsOut Q) (lt:List Nat) (hQ:∀c a d v w,Q (.panic c) (Act.put a d v) w→Q (.panic c) a w) :
  ∀(seq:List (Nat × Nat)) (listed:Array Bool) (a:Act) (w:World),Closed md ops listed→((∃x∈seq,x.1≤1)→S w) →
   seqOk md ops lt seq listed=true→wpSI n P ops S Q (pickOps ops.toList seq) a w→wpLI n P md ops Q S (fun i=>lt.contains i) seq.length listed a w
 | [],listed,a,w,_,_,hc,h=>⟨by simpa [seqOk] using hc,h⟩
 | (0,i) :: r,listed,a,w,hcl,hS,hc,h=>by
  have hSw:S w:=hS ⟨_,List.mem_cons_self,Nat.zero_le _⟩
  simp only[seqOk,Bool.and_eq_true] at hc
  obtain ⟨⟨⟨⟨hr,hf⟩,hnl⟩,hla⟩,hc'⟩:=hc
  obtain ⟨oi,hoi⟩:∃oi,ops[i]?=some oi:=by
   have:=(mem_ready (md:=md) (ops:=ops) (listed:=listed) (j:=i)).1 (by simpa using hr)
   obtain ⟨_,oi,h1,_⟩:=this
   exact ⟨oi,h1⟩
  have hp:nthOp ops.toList i=some oi:=by rw[nthOp_eq];simpa using hoi
  have hnl':lt.contains i=false:=by simpa using hnl
  have hlate:∀j listed,lt.contains j=true→Closed md ops listed→j∈Region.ready md ops listed→listed.getD i false=true:=by
   intro j listed' hl hcl' hj
   have h1:=List.all_eq_true.1 hla j (by simpa using hl)
   exact closure_listed hcl' _ _ (ready_afters hj) i (by simpa using h1)
  simp only[pickOps,hp,wpSI] at h
  have key:∀v,YieldsIf P ops S oi v a→wpSI n P ops S Q (pickOps ops.toList r) (a.put oi.dst v) w→wpLI n P md ops Q S (fun i=>lt.contains i) (r.length+1) listed a w:=by
   intro v hy hK
   exact wpLI_first hoi (Region.noSelect_spec hs) (fun c a' w'=>hQ c a' _ _ w') hnl' hlate r.length listed a w hcl (Region.free_spec hoi hf) (by simpa using hr) hy hSw
    (wpLI_of_S hs hlo lt hQ r _ _ w (hcl.set (by simpa using hr)) (fun _=>hSw) hc' hK)
  by_cases hw:Region.wanted oi (yielded ops a.tmps)=true
  ·rw[if_pos hw] at h
   obtain ⟨v,hv,hK⟩:=h
   exact key v (.inl ⟨hw,hv⟩) hK
  ·rw[if_neg hw] at h
   exact key undef (.inr ⟨by simpa using hw,rfl⟩) h
 | (1,i) :: r,listed,a,w,hcl,hS,hc,h=>by
  have hSw:S w:=hS ⟨_,List.mem_cons_self,Nat.le_refl _⟩
  simp only[seqOk,Bool.and_eq_true,beq_iff_eq] at hc
  obtain ⟨hr,hc'⟩:=hc
  obtain ⟨oi,hoi⟩:∃oi,ops[i]?=some oi:=by
   obtain ⟨_,oi,h1,_⟩:=(mem_ready (md:=md) (ops:=ops) (listed:=listed) (j:=i)).1 (by rw[hr];simp)
   exact ⟨oi,h1⟩
  have hp:nthOp ops.toList i=some oi:=by rw[nthOp_eq];simpa using hoi
  simp only[pickOps,hp,wpSI] at h
  refine ⟨fun h0=>absurd (hr▸h0) (by simp),fun j hj=>?_⟩
  rw[hr] at hj
  obtain rfl:j=i:=by simpa using hj
  unfold wpOpIn
  simp only[hoi]
  split
  ·rename_i hw
   rw[if_pos hw] at h
   rcases h with h|⟨_,h⟩
   ·refine ⟨fun _ _=>trivial,?_⟩
    rw[show Fence.wide.round=none from rfl,Oper.semAt_none]
    exact upon_to_W (Oper.wp_mono (fun a' w' hk=>⟨fun _=>hk.1,wpLI_of_S hs hlo lt hQ r _ a' w' (hcl.set (by rw[hr];simp)) (fun _=>hk.1) hc' hk.2⟩) h)
   ·exact absurd h hlo
  ·rename_i hw
   rw[if_neg hw] at h
   exact ⟨fun _ _=>trivial,fun _=>hSw,wpLI_of_S hs hlo lt hQ r _ _ w (hcl.set (by rw[hr];simp)) (fun _=>hSw) hc' h⟩
 | (m+2,i) :: r,listed,a,w,hcl,hS,hc,h=>by
  simp only[seqOk,Bool.and_eq_true,beq_iff_eq] at hc
  obtain ⟨⟨⟨hr,hl⟩,hno⟩,hc'⟩:=hc
  obtain ⟨oi,hoi⟩:∃oi,ops[i]?=some oi:=by
   obtain ⟨_,oi,h1,_⟩:=(mem_ready (md:=md) (ops:=ops) (listed:=listed) (j:=i)).1 (by rw[hr];simp)
   exact ⟨oi,h1⟩
  have hp:nthOp ops.toList i=some oi:=by rw[nthOp_eq];simpa using hoi
  simp only[pickOps,hp,wpSI] at h
  refine ⟨fun h0=>absurd (hr▸h0) (by simp),fun j hj=>?_⟩
  rw[hr] at hj
  obtain rfl:j=i:=by simpa using hj
  have hnoz:¬∃x∈r,x.1≤1:=by
   rintro ⟨x,hx,h0⟩
   have:=List.all_eq_true.1 hno x hx
   simp at this
   omega
  unfold wpOpIn
  simp only[hoi]
  split
  ·rename_i hw
   rw[if_pos hw] at h
   exact Oper.wpIn_mono (fun a' w' hk=>⟨fun h0=>by rw[hl] at h0;exact absurd h0 (by simp),wpLI_of_S hs hlo lt hQ r _ a' w' (hcl.set (by rw[hr];simp)) (fun hz=>absurd hz hnoz) hc' hk⟩) h
  ·rename_i hw
   rw[if_neg hw] at h
   exact ⟨fun _ _=>trivial,fun h0=>by rw[hl] at h0;exact absurd h0 (by simp),wpLI_of_S hs hlo lt hQ r _ _ w (hcl.set (by rw[hr];simp)) (fun hz=>absurd hz hnoz) hc' h⟩
theorem wpAnyIn_more:∀(fuel m:Nat) (listed:Array Bool) (a:Act) (w:World),wpAnyIn Fence.wide n P md ops Q fuel listed a w→wpAnyIn Fence.wide n P md ops Q (fuel+m) listed a w
 | 0,0,_,_,_,h=>h
 | 0,m+1,_,_,_,h=>by
  rw[show 0+(m+1)=m+1 from by omega]
  exact ⟨fun _=>h.2,by rw[h.1];simp⟩
 | fuel+1,m,_,_,_,h=>by
  rw[show fuel+1+m=fuel+m+1 from by omega]
  exact ⟨h.1,fun i hi=>wpOpIn_mono (fun a' w' h'=>wpAnyIn_more fuel m _ a' w' h') (h.2 i hi)⟩
def NPan (Q:Exit→Act→World→Prop):Exit→Act→World→Prop
 | .panic _,_,_=>False
 | .outgrown,_,_=>False
 | e,a,w=>Q e a w
theorem NPan.imp:∀e a w,NPan Q e a w→Q e a w:=fun e a w h=>by cases e <;> first|exact h|exact h.elim
theorem NPan.normal {a:Act} {w:World} (h:Q .normal a w):NPan Q .normal a w:=h
theorem wpIn_region_W {id:Nat} {l:List Oper} {a:Act} {w:World} (S:World→Prop) (lt:List Nat) (seq:List (Nat × Nat))
  (hm:P.follows .mixedOrders=true) (hc:(Region.noSelect l.toArray&&decide (seq.length≤l.length)&&seqOk .any l.toArray lt seq (Array.replicate l.length false))=true)
  (hS:S w.drew)
  (h:wpSI n P l.toArray S (NPan Q) (pickOps l seq) a w.drew):(Code.region id l.toArray true).wpIn Fence.wide n P Q a w:=by
 refine wpIn_mono ?_ NPan.imp
 simp only[Bool.and_eq_true,decide_eq_true_eq] at hc
 obtain ⟨⟨hs,hlen⟩,hc⟩:=hc
 refine wpIn_region_any hm ?_
 obtain ⟨m,hm'⟩:∃m,l.toArray.size=seq.length+m:=⟨l.length - seq.length,by simp;omega⟩
 rw[hm']
 refine wpAnyIn_more _ _ _ _ _ (wpAnyIn_of_LI (S:=S) (late:=fun i=>lt.contains i) _ _ _ _ ?_)
 have e:Array.replicate (seq.length+m) false=Array.replicate l.length false:=by rw[← hm'];simp
 rw[e]
 refine wpLI_of_S hs ?_ lt (fun _ _ _ _ _ h=>h) seq _ a w.drew (closed_none _) (fun _=>hS) hc h
 rintro ⟨a',w',hq⟩
 exact hq
theorem wpSI_quiet {a:Act} {w:World} {o:Oper} {r:List (Nat × Oper)} (hp:plainOp o=true) (hw:Region.wanted o (yielded ops a.tmps)=true)
  (h:∀K:Act→Prop,(∀a',wpSI n P ops S Q r a' w→K a')→o.quiet P a S K):wpSI n P ops S Q ((0,o) :: r) a w:=by
 simp only[wpSI,hw,if_true]
 obtain ⟨v,hv,hK⟩:=h (fun a'=>wpSI n P ops S Q r a' w) (fun _ h=>h)
 refine ⟨v,fun w' hS=>?_,hK⟩
 have hq:=hv w' hS
 unfold Oper.quietAt at hq
 cases hr:(execOp a.eval o).run P w' with
 | halt x w1=>rw[hr] at hq;exact hq.elim
 | ok n w1 =>
  obtain ⟨u,rfl⟩:=plain_value hp _ hr
  rw[hr] at hq
  obtain ⟨rfl,rfl⟩:=hq
  rfl
def LQI (n:Nat) (P:Program) (ops:Array Oper) (S:World→Prop) (Q:Exit→Act→World→Prop) (r:List (Nat × Oper)):Exit→Act→World→Prop
 | .normal,a,w=>S w∧wpSI n P ops S Q r a w
 | e,a,w=>Q e a w
theorem LQI_lets {r:List (Nat × Oper)} (h:LetsOut (LQI n P ops S Q r)):LetsOut Q:=h
theorem wpSI_loud {a:Act} {w:World} {o:Oper} {r:List (Nat × Oper)}
  (h:wpList P ops (LQI n P ops S Q r) [o] a w):wpSI n P ops S Q ((1,o) :: r) a w:=by
 simp only[wpList] at h
 simp only[wpSI]
 split
 ·rename_i hw
  rw[if_pos hw] at h
  rcases h with h|⟨h1,h2⟩
  ·left
   unfold Oper.wp at *
   generalize (execOp a.eval o).run P w=x at *
   cases x with
   | ok n w'=>cases n <;> simp only[Oper.upon] at h ⊢ <;> (try exact h) <;> (try exact h.2) <;> (try exact h.2.2)
   | halt x w'=>cases x <;> simp only[Oper.upon] at h ⊢ <;> exact h
  ·exact .inr ⟨h1,LQI_lets h2⟩
 ·rename_i hw
  rw[if_neg hw] at h
  exact h.2
theorem wpSI_late:∀(r:List (Nat × Oper)) (a:Act) (w:World),(r.all fun x=>decide (2≤x.1))=true→wpListIn Fence.wide n P ops Q (r.map (·.2)) a w→wpSI n P ops S Q r a w
 | [],_,_,_,h=>h
 | (k,o) :: r,a,w,hk,h=>by
  simp only[List.all_cons,Bool.and_eq_true,decide_eq_true_eq] at hk
  obtain ⟨m,rfl⟩:∃m,k=m+2:=⟨k - 2,by omega⟩
  simp only[List.map_cons,wpListIn] at h
  simp only[wpSI]
  split
  ·rename_i hw
   rw[if_pos hw] at h
   exact Oper.wpIn_mono (fun a' w' hK=>wpSI_late r a' w' hk.2 hK) h
  ·rename_i hw
   rw[if_neg hw] at h
   exact wpSI_late r _ _ hk.2 h.2
end
end
section
open Go Go.RowKit
attribute [local go_sem] over_cell
theorem free_bits {n:Nat} {cs:List Int} {k x:Nat} (hk:k<cs.length) (h0:cs[k]?.getD 0<0) :
  freeB n cs k (x:Int)=!((rowM n cs cs.length (k / n)).testBit x||(colM n cs cs.length (k % n)).testBit x):=by
 rw[Bool.eq_iff_iff,freeB_iff,Bool.not_eq_true',Bool.or_eq_false_iff,← Bool.not_eq_true,← Bool.not_eq_true]
 unfold rowM colM
 rw[maskBy_bit,maskBy_bit]
 constructor
 ·intro h
  constructor
  ·rintro ⟨j,hj,hp,he⟩
   have hjk:j≠k:=by rintro rfl;omega
   have:=h j hj hjk he
   unfold lineB at this
   rw[hp] at this
   simp at this
  ·rintro ⟨j,hj,hp,he⟩
   have hjk:j≠k:=by rintro rfl;omega
   have:=h j hj hjk he
   unfold lineB at this
   rw[hp] at this
   simp at this
 ·rintro ⟨h1,h2⟩ d hd hdk he
  unfold lineB
  rw[Bool.or_eq_false_iff]
  constructor
  ·cases e:d / n==k / n with
   | false=>rfl
   | true=>exact absurd ⟨d,hd,e,he⟩ h1
  ·cases e:d % n==k % n with
   | false=>rfl
   | true=>exact absurd ⟨d,hd,e,he⟩ h2
theorem bit_set {a x y:Nat}:(a ||| 1 <<< x).testBit y=(a.testBit y||decide (x=y)):=by
 rw[Nat.testBit_or,Nat.one_shiftLeft,Nat.testBit_two_pow]
theorem mask_set {p:Nat→Bool} {cs:List Int} {k x:Nat} (hk:k<cs.length) (h0:cs[k]?.getD 0<0):maskBy p (cs.set k (x:Int)) cs.length=if p k=true then maskBy p cs cs.length ||| 1 <<< x else maskBy p cs cs.length:=by
 have key:∀y,(maskBy p (cs.set k (x:Int)) cs.length).testBit y=true↔(maskBy p cs cs.length).testBit y=true∨(p k=true∧x=y):=by
  intro y
  rw[maskBy_bit,maskBy_bit]
  constructor
  ·rintro ⟨j,hj,hp,he⟩
   rw[gset_get hk] at he
   by_cases e:j=k
   ·rw[if_pos e] at he
    subst e
    exact .inr ⟨hp,by omega⟩
   ·rw[if_neg e] at he
    exact .inl ⟨j,hj,hp,he⟩
  ·rintro (⟨j,hj,hp,he⟩|⟨hp,rfl⟩)
   ·refine ⟨j,hj,hp,?_⟩
    rw[gset_get hk,if_neg (by rintro rfl;omega)]
    exact he
   ·exact ⟨k,hk,hp,by rw[gset_get hk,if_pos rfl]⟩
 refine Nat.eq_of_testBit_eq fun y=>?_
 rw[Bool.eq_iff_iff,key]
 by_cases hp:p k=true
 ·rw[if_pos hp,bit_set,Bool.or_eq_true,decide_eq_true_eq]
  simp[hp]
 ·rw[if_neg hp]
  simp[hp]
theorem rowM_set {n:Nat} {cs:List Int} {k x:Nat} (hk:k<cs.length) (h0:cs[k]?.getD 0<0) (r:Nat):rowM n (cs.set k (x:Int)) cs.length r=if r=k / n then rowM n cs cs.length (k / n) ||| 1 <<< x else rowM n cs cs.length r:=by
 unfold rowM
 rw[mask_set hk h0]
 by_cases e:r=k / n
 ·subst e;simp
 ·rw[if_neg e,if_neg (by simpa using fun h=>e h.symm)]
theorem colM_set {n:Nat} {cs:List Int} {k x:Nat} (hk:k<cs.length) (h0:cs[k]?.getD 0<0) (r:Nat):colM n (cs.set k (x:Int)) cs.length r=if r=k % n then colM n cs cs.length (k % n) ||| 1 <<< x else colM n cs cs.length r:=by
 unfold colM
 rw[mask_set hk h0]
 by_cases e:r=k % n
 ·subst e;simp
 ·rw[if_neg e,if_neg (by simpa using fun h=>e h.symm)]
theorem mask32 {p:Nat→Bool} {cs:List Int} {n k:Nat} (hn:n≤16) (h:∀j:Nat,cs[j]?.getD 0<(n:Int)):maskBy p cs k<4294967296 :=
 Nat.lt_of_lt_of_le (maskBy_lt h) (Nat.le_trans (Nat.pow_le_pow_right (by decide) hn) (by decide))
def childC (n:Nat) (ok:Nat→Int→List Int→Bool) (f k:Nat) (cs:List Int) (x:Nat):List (List Int):=if (ok k (x:Int) cs&&freeB n cs k (x:Int))=true then compP n ok f (k+1) (cs.set k (x:Int)) else []
def accC (n:Nat) (ok:Nat→Int→List Int→Bool) (f k:Nat) (cs:List Int) (i:Nat):List (List Int):=(List.range i).flatMap (childC n ok f k cs)
theorem accC_succ (n:Nat) (ok:Nat→Int→List Int→Bool) (f k:Nat) (cs:List Int) (i:Nat):accC n ok f k cs (i+1)=accC n ok f k cs i++childC n ok f k cs i:=by simp[accC,List.range_succ]
theorem accC_mono (n:Nat) (ok:Nat→Int→List Int→Bool) (f k:Nat) (cs:List Int) {a:Nat}:∀{b:Nat},a≤b→accC n ok f k cs a <+: accC n ok f k cs b
 | 0,h=>by rw[show a=0 from by omega];exact List.prefix_refl _
 | b+1,h=>by
  rcases Nat.lt_or_ge a (b+1) with h1|h1
  ·rw[accC_succ]
   exact (accC_mono n ok f k cs (show a≤b by omega)).trans (List.prefix_append _ _)
  ·rw[show a=b+1 from by omega];exact List.prefix_refl _
theorem compP_given {n:Nat} {ok:Nat→Int→List Int→Bool} {f k:Nat} {cs:List Int} (h:0≤cs[k]?.getD 0):compP n ok (f+1) k cs=compP n ok f (k+1) cs:=by rw[compP,if_pos h]
theorem compP_open {n:Nat} {ok:Nat→Int→List Int→Bool} {f k:Nat} {cs:List Int} (h:cs[k]?.getD 0<0):compP n ok (f+1) k cs=accC n ok f k cs n:=by rw[compP,if_neg (by omega)];rfl
structure CC where
 bP:Nat
 bFr:Nat
 bNo:Nat
 bY:Nat
 bN:Nat
 bT:Nat
 bC:Nat
 bFi:Nat
 g:Nat
 cap:Nat
 n:Nat
 m:Nat
 aP:Option Addr
 cP:Nat
 ps:List Int
 l:Nat
 fk:Nat
 fcaps:Array Value
 nk:Nat
 ncaps:Array Value
 Im:Nat→Prop
 MN:Nat→Prop
 M:Nat→Prop
 ok:Nat→Int→List Int→Bool
 Nt:List Int→World→Prop
 L0:List (List Int)
def CC.caps (c:CC):Array Value:=#[.pointer (some ⟨c.bC,0,none⟩),.pointer (some ⟨c.bY,0,none⟩),.pointer (some ⟨c.bN,0,none⟩),.pointer (some ⟨c.bP,0,none⟩),.pointer (some ⟨c.bFi,0,none⟩),.pointer (some ⟨c.bT,0,none⟩),.pointer (some ⟨c.bFr,0,none⟩),.pointer (some ⟨c.bNo,0,none⟩)]
def CC.K (c:CC) (k:Nat):Prop:=c.Im k∨k=c.bP∨k=c.bFr∨k=c.bNo∨k=c.bY∨k=c.bN∨k=c.bC∨k=c.bFi
def CC.cV (c:CC):Value := .slice (some ⟨c.g,0,none⟩) c.m c.cap
structure Gc (c:CC) (cs:List Int) (k:Nat):Prop where
 len:cs.length=c.m
 lo:∀j,j<k→j<c.m→0≤cs[j]?.getD 0
 lt:∀j:Nat,cs[j]?.getD 0<(c.n:Int)
 hi:∀j,k≤j→cs[j]?.getD 0=c.ps[j]?.getD 0
 giv:∀j:Nat,0≤c.ps[j]?.getD 0→cs[j]?.getD 0=c.ps[j]?.getD 0
theorem Gc.step {c:CC} {cs:List Int} {k:Nat} (h:Gc c cs k) (h0:0≤cs[k]?.getD 0):Gc c cs (k+1) :=
 ⟨h.len,fun j hj hm=>by
  rcases Nat.lt_or_ge j k with e|e
  ·exact h.lo j e hm
  ·rw[show j=k by omega];exact h0,h.lt,fun j hj=>h.hi j (by omega),h.giv⟩
theorem Gc.put {c:CC} {cs:List Int} {k x:Nat} (h:Gc c cs k) (hk:k<c.m) (h0:c.ps[k]?.getD 0<0) (hx:x<c.n):Gc c (cs.set k (x:Int)) (k+1):=by
 have hkl:k<cs.length:=by rw[h.len];exact hk
 refine ⟨by rw[List.length_set];exact h.len,fun j hj hm=>?_,fun j=>?_,fun j hj=>?_,fun j hj=>?_⟩
 ·rw[gset_get hkl]
  by_cases e:j=k
  ·rw[if_pos e];omega
  ·rw[if_neg e];exact h.lo j (by omega) hm
 ·rw[gset_get hkl]
  by_cases e:j=k
  ·rw[if_pos e];omega
  ·rw[if_neg e];exact h.lt j
 ·rw[gset_get hkl,if_neg (by omega)];exact h.hi j (by omega)
 ·rw[gset_get hkl,if_neg (by rintro rfl;omega)];exact h.giv j hj
structure CSide (c:CC):Prop where
 keep:∀cs W W',c.Nt cs W→W.heap.size≤W'.heap.size→(∀k,c.K k∨c.MN k→W'.heap[k]?=W.heap[k]?)→c.Nt cs W'
 free:∀cs (k x:Nat) W,c.Nt cs W→(∀k,c.K k→k<W.heap.size)→Gc c cs k→k<c.m→x<c.n→Calls Tryz.prog c.fk (#[.int .i64 (k:Int),.int .i64 (x:Int)]++c.fcaps) W fun e w'=>e = .returned (.bool (c.ok k (x:Int) cs))∧Below W.heap.size W w'
 noteT:∀cs (k x:Nat) W,c.Nt cs W→(∀k,c.K k→k<W.heap.size)→Gc c cs k→k<c.m→x<c.n→c.ps[k]?.getD 0<0→c.ok k (x:Int) cs=true→Calls Tryz.prog c.nk (#[.int .i64 (k:Int),.int .i64 (x:Int),.bool true]++c.ncaps) W fun e w'=>e = .returned (.tuple #[])∧c.Nt (cs.set k (x:Int)) w'∧Stays c.MN W w'
 noteF:∀cs (k x:Nat) W,c.Nt (cs.set k (x:Int)) W→(∀k,c.K k→k<W.heap.size)→Gc c cs k→k<c.m→x<c.n→c.ps[k]?.getD 0<0→c.ok k (x:Int) cs=true→Calls Tryz.prog c.nk (#[.int .i64 (k:Int),.int .i64 (x:Int),.bool false]++c.ncaps) W fun e w'=>e = .returned (.tuple #[])∧c.Nt cs w'∧Stays c.MN W w'
 frun:∀args w,Sem.run Tryz.prog (callFunc c.fk args) w = .ok (.enter c.fk args) w
 nrun:∀args w,Sem.run Tryz.prog (callFunc c.nk args) w = .ok (.enter c.nk args) w
structure CFix (c:CC):Prop where
 n1:1≤c.n
 n2:c.n≤16
 mm:Hid (c.m=c.n*c.n)
 m1:1≤c.m
 m2:c.m≤256
 neg:∀j:Nat,c.ps[j]?.getD 0<0→c.ps[j]?.getD 0 = -1
 apart:∀k,c.K k→k≠c.g∧k≠c.bT∧¬c.MN k
 mg:c.M c.g
 mt:c.M c.bT
 mn:∀k,c.MN k→c.M k
 gt:c.g≠c.bT
 gn:¬c.MN c.g
 tn:¬c.MN c.bT
 side:CSide c
structure CB (c:CC) (W:World):Prop where
 kLt:∀k,c.K k→k<W.heap.size
 qP:W.heap[c.bP]?=some (.cells #[.int .i64 (c.n:Int),.int .i64 (c.n:Int),.slice c.aP c.m c.cP] 24 (0,0))
 qFr:W.heap[c.bFr]?=some (.cells #[.func (.func c.fk) #[] c.fcaps] 111 (0,0))
 qNo:W.heap[c.bNo]?=some (.cells #[.func (.func c.nk) #[] c.ncaps] 112 (0,0))
 qY:W.heap[c.bY]?=some (.cells #[.func (.yield c.l) #[] #[]] 34 (0,0))
 qN:W.heap[c.bN]?=some (.cells #[.int .i64 (c.n:Int)] 3 (0,0))
 qC:W.heap[c.bC]?=some (.cells #[c.cV] 22 (0,0))
 qFi:W.heap[c.bFi]?=some (.cells #[.func (.func 156) #[] c.caps] 72 (0,0))
 icp:Sure c.Im W (fun w=>IC w c.aP c.m c.ps)
 mnLt:∀k,c.MN k→k<W.heap.size
theorem CB.keep {c:CC} {W W':World} (h:CB c W) (hs:W.heap.size≤W'.heap.size) (hk:∀k,c.K k→W'.heap[k]?=W.heap[k]?):CB c W' where
 kLt:=fun k e=>Nat.lt_of_lt_of_le (h.kLt k e) hs
 qP:=(hk _ (.inr (.inl rfl))).trans h.qP
 qFr:=(hk _ (.inr (.inr (.inl rfl)))).trans h.qFr
 qNo:=(hk _ (.inr (.inr (.inr (.inl rfl))))).trans h.qNo
 qY:=(hk _ (.inr (.inr (.inr (.inr (.inl rfl)))))).trans h.qY
 qN:=(hk _ (.inr (.inr (.inr (.inr (.inr (.inl rfl))))))).trans h.qN
 qC:=(hk _ (.inr (.inr (.inr (.inr (.inr (.inr (.inl rfl)))))))).trans h.qC
 qFi:=(hk _ (.inr (.inr (.inr (.inr (.inr (.inr (.inr rfl)))))))).trans h.qFi
 icp:=h.icp.keep hs (fun k e=>hk k (.inl e))
 mnLt:=fun k e=>Nat.lt_of_lt_of_le (h.mnLt k e) hs
theorem CB.stays {c:CC} {W W':World} {S:Nat→Prop} (h:CB c W) (hb:Stays S W W') (hS:∀k,c.K k→¬S k):CB c W':=h.keep hb.size (fun k e=>hb.block k (h.kLt k e) (hS k e))
theorem TkW.block {w w':World} {b:Nat} {R K:Nat→Nat} (h:TkW w b R K) (hs:w.heap.size≤w'.heap.size) (hb:w'.heap[b]?=w.heap[b]?):TkW w' b R K :=
 ⟨Nat.lt_of_lt_of_le h.lt hs,fun i hi=>⟨(World.cell?_of_block hb).trans (h.row i hi).1,(World.frozen?_of_block hb).trans (h.row i hi).2⟩,fun i hi=>⟨(World.cell?_of_block hb).trans (h.col i hi).1,(World.frozen?_of_block hb).trans (h.col i hi).2⟩⟩
theorem TkW.stays {w w':World} {b:Nat} {R K:Nat→Nat} {S:Nat→Prop} (h:TkW w b R K) (hs:Stays S w w') (hb:¬S b):TkW w' b R K:=h.block hs.size (hs.block b h.lt hb)
structure CS (c:CC) (W:World) (cs F:List Int) (k:Nat):Prop where
 cb:CB c W
 tk:TkW W c.bT (rowM c.n cs c.m) (colM c.n cs c.m)
 f:W.ownsRow 0 3 1 c.cV c.m (F.map (Value.int .i64))
 nt:c.Nt cs W
 gc:Gc c cs k
 agree:∀j:Nat,(j<k∨0≤c.ps[j]?.getD 0)→F[j]?.getD 0=cs[j]?.getD 0
theorem CS.flen {c:CC} {W:World} {cs F:List Int} {k:Nat} (h:CS c W cs F k):F.length=c.m:=by have:=h.f.1;simpa using this
theorem CS.gLt {c:CC} {W:World} {cs F:List Int} {k:Nat} (h:CS c W cs F k):c.g<W.heap.size:=(h.f.lt c.g rfl).2
theorem CS.keep {c:CC} (hx:CFix c) {W W':World} {cs F:List Int} {k:Nat} (h:CS c W cs F k) (hs:W.heap.size≤W'.heap.size) (hk:∀k,k<W.heap.size→c.K k∨k=c.g∨k=c.bT∨c.MN k→W'.heap[k]?=W.heap[k]?):CS c W' cs F k :=
 ⟨h.cb.keep hs (fun k e=>hk k (h.cb.kLt k e) (.inl e)),h.tk.block hs (hk _ h.tk.lt (.inr (.inr (.inl rfl)))),owns_keep h.f (fun k e hl=>by cases e;exact hk _ hl (.inr (.inl rfl))),
  hx.side.keep _ _ _ h.nt hs (fun k e=>by
   rcases e with e|e
   ·exact hk k (h.cb.kLt k e) (.inl e)
   ·exact hk k (h.cb.mnLt k e) (.inr (.inr (.inr e)))),h.gc,h.agree⟩
theorem CS.below {c:CC} (hx:CFix c) {W W':World} {cs F:List Int} {k:Nat} (h:CS c W cs F k) (hb:Below W.heap.size W W'):CS c W' cs F k :=
 h.keep hx hb.size (fun k hl _=>hb.block k hl)
theorem CS.last {c:CC} {W:World} {cs F:List Int} (h:CS c W cs F c.m):F=cs:=by
 have h1:=h.flen
 have h2:=h.gc.len
 refine List.ext_getElem (by omega) fun i hi hi2=>?_
 have:=h.agree i (.inl (by omega))
 rw[List.getElem?_eq_getElem hi,List.getElem?_eq_getElem hi2,Option.getD_some,Option.getD_some] at this
 exact this
def encC (c:CC) (x:Value × List Int):Array Value:=#[.agg #[.int .i64 (c.n:Int),.int .i64 (c.n:Int),x.1]]
def NewC (x:Value × List Int) (W0:World):Prop:=∀k,x.1.ownBlock=some k→W0.heap.size≤k
def GivenC (c:CC) (x:Value × List Int) (M:Nat→Prop) (W:World):Prop :=
 W.ownsRow 0 3 1 x.1 x.2.length (x.2.map (Value.int .i64))∧(∀k,x.1.ownBlock=some k→¬c.K k∧¬M k)∧(∀k,M k→k<W.heap.size)∧x.2.length=c.m∧∀k,c.M k→M k
def KpC (c:CC) (M:Nat→Prop) (A B:World):Prop:=A.heap.size≤B.heap.size∧∀k,k<A.heap.size→c.K k∨M k→B.heap[k]?=A.heap[k]?
def Left (c:CC) (M:Nat→Prop) (W W':World):Prop:=W.heap.size≤W'.heap.size∧∀k,k<W.heap.size→M k→k≠c.g→k≠c.bT→¬c.MN k→W'.heap[k]?=W.heap[k]?
def FillQ (c:CC) (J Jx:List (Value × List Int)→(Nat→Prop)→World→Prop) (M:Nat→Prop) (pre:List (Value × List Int)) (L:List (List Int)) (k:Nat) (cs:List Int) (W:World) (e:Ending) (W':World):Prop :=
 Left c M W W'∧(∃F',CS c W' cs F' k) ∧
  ((e = .returned (.bool true)∧∃xs,xs.map Prod.snd=L∧J (pre++xs) M W')∨(e = .returned (.bool false)∧∃ys,ys.map Prod.snd <+: L∧ys≠[]∧Jx (pre++ys) M W'))
end
section
open Go Go.RowKit
attribute [local go_sem] over_cell
attribute [local go_sem] Oper.semAt_some
theorem fill0_c (c:CC) (hx:CFix c) (J Jx:List (Value × List Int)→(Nat→Prop)→World→Prop)
  (hY:∀pre x M W0 W1,J pre M W0→Below W0.heap.size W0 W1→NewC x W0→GivenC c x M W1→(pre++[x]).map Prod.snd <+: c.L0→YieldAt Fence.wide 0 Tryz.prog c.l (encC c x) W1 fun e W' =>
   (e = .returned (.bool true)∧J (pre++[x]) M W'∧KpC c M W1 W')∨(e = .returned (.bool false)∧Jx (pre++[x]) M W'∧KpC c M W1 W'))
  (W:World) (cs F:List Int) (M:Nat→Prop) (pre:List (Value × List Int)) (h:CS c W cs F c.m) (hM1:∀k,c.M k→M k) (hM2:∀k,M k→k<W.heap.size) (hL:pre.map Prod.snd++compP c.n c.ok 0 c.m cs <+: c.L0) (h0:J pre M W) :
  Calls Tryz.prog 156 (#[.int .i64 (c.m:Int)]++c.caps) W (FillQ c J Jx M pre (compP c.n c.ok 0 c.m cs) c.m cs W):=by
 have hF:=h.last
 subst hF
 have cC:W.cell? ⟨c.bC,0,none⟩=some (.slice (some ⟨c.g,0,none⟩) c.m c.cap):=q_cell h.cb.qC 0
 have cN:W.cell? ⟨c.bN,0,none⟩=some (.int .i64 (c.n:Int)):=q_cell h.cb.qN 0
 have cY:W.cell? ⟨c.bY,0,none⟩=some (.func (.yield c.l) #[] #[]):=q_cell h.cb.qY 0
 have lC:=q_lt h.cb.qC
 have lN:=q_lt h.cb.qN
 have lY:=q_lt h.cb.qY
 have hm2:=hx.m2
 have hic:IC W (some ⟨c.g,0,none⟩) c.m F:=(IC.own h.f h.flen (by omega)).1
 have HCL:=Lib.hid (fun W1 (hb:Below W.heap.size W W1)=>(clone_c (some ⟨c.g,0,none⟩) c.m c.cap F W1 (hic.mono hb)).mono (fun e w' hh=>show ∃va vc,e = .returned (.slice va F.length vc)∧Below W.heap.size W w'∧YieldAt Fence.wide 0 Tryz.prog c.l #[.agg #[.int .i64 (c.n:Int),.int .i64 (c.n:Int),.slice va F.length vc]] w' (fun e W'=>(e = .returned (.bool true)∧J (pre++[(.slice va F.length vc,F)]) M W'∧KpC c M w' W')∨(e = .returned (.bool false)∧Jx (pre++[(.slice va F.length vc,F)]) M W'∧KpC c M w' W')) from by
  obtain ⟨v,he,hown,hbl⟩:=hh
  obtain ⟨va,vc,rfl⟩:=owns_shape hown
  have hbw:=keep_trans hb hbl
  refine ⟨va,vc,he,hbw,hY pre (.slice va F.length vc,F) M W w' h0 hbw (fun k e=>Nat.le_trans hb.size (hown.lt k e).1) ⟨owns_base hown (Nat.zero_le _),fun k e=>?_,fun k e=>Nat.lt_of_lt_of_le (hM2 k e) hbw.size,h.flen,hM1⟩ (by rw[List.map_append];exact hL)⟩
  have h1:=(hown.lt k e).1
  have h2:=hb.size
  exact ⟨fun e2=>by have:=h.cb.kLt k e2;omega,fun e2=>by have:=hM2 k e2;omega⟩))
 have H:=Lib.hid h
 have HFL:Hid (compP c.n c.ok 0 c.m F=[F]):=rfl
 rw[HFL.out]
 clear hY h0 h hic hL
 refine (callsIn_wide (n:=0)).1 (callsIn_of_wp Tryz.func156 rfl trivial ?_ rfl)
 unfold CC.caps
 simp only[Tryz.ntmps156,List.size_toArray,List.length_cons,List.length_nil,Nat.reduceAdd,Nat.reduceSub,Array.replicate_succ,Array.replicate_zero,List.push_toArray,List.append_toArray,List.nil_append,List.cons_append]
 gi_wp2_with fail
 refine wpIn_region_W (fun w'=>∃u,w'=over (W) u) [7,6] [(0,0),(0,1),(0,2),(0,3),(1,4),(0,5),(2,6),(2,7)] (by kernel_rfl) (by kernel_rfl) (by exact ⟨_,below_over (by repeat (first|assumption|exact Below.refl _ _|refine keep_drew ?_|refine keep_alloc ?_ _|refine keep_trans ?_ (by assumption)))⟩) ?_
 dsimp only[pickOps,nthOp]
 repeat (first|(refine wpSI_quiet rfl rfl (fun K hK=>?_);go_big_quiet_op;refine hK _ ?_;clear hK K)|(refine wpSI_loud ?_;go_wp2_with (first|(go_at_call 141;refine (HCL.out _ (keep_drew (Below.refl _ _))).mono ?_;rintro _ w4 ⟨va,vc,rfl,hb4,fn,tmps,assign,body,hy,hR⟩));refine ⟨?_,?_⟩;focus (exact ⟨_,below_over (by repeat (first|assumption|exact Below.refl _ _|refine keep_drew ?_|refine keep_alloc ?_ _|refine keep_trans ?_ (by assumption)))⟩)))
 refine wpSI_late _ _ _ rfl ?_
 dsimp only[List.map]
 gi_wp2_with (first|(with_reducible refine ⟨wide_fn _,?_⟩)|(with_reducible refine ⟨wide_depth,?_⟩)|(with_reducible refine ⟨wide_all,?_⟩))
 have HR:=Lib.hid hR
 have HB:=Lib.hid hb4
 have hgk:∀W5,KpC c M w4 W5→Left c M W W5∧∃F',CS c W5 F F' c.m:=fun W5 hk=>by
  refine ⟨⟨Nat.le_trans HB.out.size hk.1,fun k hl hm _ _ _=>(hk.2 k (Nat.lt_of_lt_of_le hl HB.out.size) (.inr hm)).trans (HB.out.block k hl)⟩,F,(H.out.below hx HB.out).keep hx hk.1 (fun k hl e=>hk.2 k hl ?_)⟩
  rcases e with e|e|e|e
  ·exact .inl e
  ·exact .inr (by rw[e];exact hM1 _ hx.mg)
  ·exact .inr (by rw[e];exact hM1 _ hx.mt)
  ·exact .inr (hM1 _ (hx.mn k e))
 have HGK:=Lib.hid hgk
 clear hR hb4 hgk cC cN cY lC lN lY
 refine HR.out.mono ?_
 rintro e5 w5 (⟨rfl,hJ5,hk5⟩|⟨rfl,hJ5,hk5⟩)
 ·have HJ:=Lib.hid hJ5
  have HK:=Lib.hid hk5
  clear hJ5 hk5
  gi_wp2_with (first|(with_reducible refine ⟨wide_fn _,?_⟩)|(with_reducible refine ⟨wide_depth,?_⟩)|(with_reducible refine ⟨wide_all,?_⟩))
  refine NPan.normal ?_
  gi_wp2_with (first|(with_reducible refine ⟨wide_fn _,?_⟩)|(with_reducible refine ⟨wide_depth,?_⟩)|(with_reducible refine ⟨wide_all,?_⟩))
  go_ret
  exact ⟨(HGK.out w5 HK.out).1,(HGK.out w5 HK.out).2,.inl ⟨rfl,_,rfl,HJ.out⟩⟩
 ·have HJ:=Lib.hid hJ5
  have HK:=Lib.hid hk5
  clear hJ5 hk5
  gi_wp2_with (first|(with_reducible refine ⟨wide_fn _,?_⟩)|(with_reducible refine ⟨wide_depth,?_⟩)|(with_reducible refine ⟨wide_all,?_⟩))
  refine NPan.normal ?_
  gi_wp2_with (first|(with_reducible refine ⟨wide_fn _,?_⟩)|(with_reducible refine ⟨wide_depth,?_⟩)|(with_reducible refine ⟨wide_all,?_⟩))
  go_ret
  exact ⟨(HGK.out w5 HK.out).1,(HGK.out w5 HK.out).2,.inr ⟨rfl,_,List.prefix_refl _,by simp,HJ.out⟩⟩
end
end Go.Proofs.YtmfpdakaeagdpaaGreat
