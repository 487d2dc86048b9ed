/- Texts X4 to I0 of this proof, in one file. -/
import Derived.Test.YtpkghjoippcjeaaGreatDoorW01
import Derived.Test.YtpkghjoippcjeaaGreatDoorW03
import Derived.OwnWalkIn
import Derived.OrdersIn
import Derived.RangeFuncCalls
namespace Go.Proofs.YtpkghjoippcjeaaGreatDoor
set_option maxRecDepth 100000
set_option maxHeartbeats 16000000
section
open Go Go.RowKit
section
variable {P:Program} {ops:Array Oper} {Q:Exit→Act→World→Prop} {md:Region.Mode} {l0 n:Nat}
theorem upon_to_In {o:Oper} {a:Act} {next:Act→World→Prop} {r:Result Next} (h:o.upon P a next Q r):o.uponIn (Fence.wide.inRound l0) n P a next Q r:=by
 cases r with
 | ok x w =>
  cases x <;> simp only[Oper.upon] at h <;> first|exact h|exact h.elim|skip
  ·exact ⟨fun e=>absurd e (by simp[Fence.wide]),CallsIn.inRound l0 (callsIn_wide.2 h)⟩
  ·refine ⟨fun e=>absurd e (by simp[Fence.wide]),fun c cs _=>?_⟩
   obtain ⟨v,w',hr,hs⟩:=h c cs
   exact ⟨v,w',hr,stepsIn_wide.2 hs⟩
 | halt x w =>
  cases x <;> simp only[Oper.upon] at h <;> first|exact h|exact h.elim
theorem wpOp_to_In (hd:∀(i:Nat) (o:Oper),ops[i]?=some o→∀c,o.op≠Op.defer c) (hlo:¬LetsOut Q) {i:Nat} {K:Act→World→Prop} {a:Act} {w:World} (h:wpOp P ops Q i K a w):wpOpIn (Fence.wide.inRound l0) n P ops Q i K a w:=by
 unfold wpOp at h
 unfold wpOpIn
 cases ho:ops[i]? with
 | none=>rw[ho] at h;exact h
 | some o =>
  rw[ho] at h
  simp only at h ⊢
  split
  ·rename_i hw
   rw[if_pos hw] at h
   rcases h with h|⟨_,h⟩
   ·refine ⟨fun _ _=>trivial,?_⟩
    rw[Oper.semAt_plain _ _ _ (hd i o ho)]
    exact upon_to_In h
   ·exact absurd h hlo
  ·rename_i hw
   rw[if_neg hw] at h
   exact ⟨fun _ _=>trivial,h⟩
theorem wpAny_to_In (hd:∀(i:Nat) (o:Oper),ops[i]?=some o→∀c,o.op≠Op.defer c) (hlo:¬LetsOut Q):∀(fuel:Nat) (listed:Array Bool) (a:Act) (w:World),wpAny P md ops Q fuel listed a w→wpAnyIn (Fence.wide.inRound l0) n P md ops Q fuel listed a w
 | 0,_,_,_,h=>h
 | fuel+1,_,_,_,h=>⟨h.1,fun i hi=>wpOpIn_mono (fun a' w' h'=>wpAny_to_In hd hlo fuel _ a' w' h') (wpOp_to_In hd hlo (h.2 i hi))⟩
def noDefer (l:List Oper):Bool:=l.all fun o=>match o.op with | .defer _=>false|_=>true
theorem wpIn_region_S {id:Nat} {l:List Oper} {a:Act} {w:World} (S:World→Prop) (lt:List Nat) (seq:List (Nat × Nat))
  (hm:P.follows .mixedOrders=true) (hc:(Region.noSelect l.toArray&&decide (seq.length≤l.length)&&seqOk .any l.toArray lt seq (Array.replicate l.length false))=true) (hnd:noDefer l=true) (hlo:∀a w,Q .outgrown a w→False)
  (hS:S w.drew)
  (h:wpS P l.toArray S (NoPanic Q) (pickOps l seq) a w.drew):(Code.region id l.toArray true).wpIn (Fence.wide.inRound l0) n P Q a w:=by
 refine wpIn_mono ?_ NoPanic.imp
 simp only[Bool.and_eq_true,decide_eq_true_eq] at hc
 obtain ⟨⟨hs,hlen⟩,hc⟩:=hc
 refine wpIn_region_any hm (wpAny_to_In ?_ ?_ _ _ _ _ ?_)
 ·intro i o ho c hcc
  have h1:=List.all_eq_true.1 hnd o (by
   have:l[i]?=some o:=by simpa using ho
   exact List.mem_of_getElem? this)
  rw[hcc] at h1
  cases h1
 ·rintro ⟨a',w',hq⟩
  exact hlo a' w' hq
 obtain ⟨m,hm'⟩:∃m,l.toArray.size=seq.length+m:=⟨l.length - seq.length,by simp;omega⟩
 rw[hm']
 refine wpAny_more _ _ _ _ _ (wpAny_of_L (S:=S) (late:=fun i=>lt.contains i) _ _ _ _ ?_)
 have e:Array.replicate (seq.length+m) false=Array.replicate l.length false:=by rw[← hm'];simp
 rw[e]
 exact wpL_of_S hs lt (fun _ _ _ _ _ h=>h) seq _ a w.drew (closed_none _) (fun _=>hS) hc h
end
end
end Go.Proofs.YtpkghjoippcjeaaGreatDoor
