/- Texts J1 to J19 of this proof, in one file. -/
import Derived.Test.YtmfpdakaeagdpaaGreatW01
import Derived.Test.YtmfpdakaeagdpaaGreatW02
import Derived.Below
import Derived.BigFrame
import Derived.BigQuiet
import Derived.Deep.LoopGhost
import Derived.Deep.Quiet
import Derived.Deep.RegionHeld3
import Derived.KernelRfl
import Derived.Laws.BitsAllLaws
import Derived.Lib.Hide
import Derived.Lib.SliceRun
import Derived.LoopIn
import Derived.LoopNIn
import Derived.Maps.AppendAt
import Derived.Maps.OwnIn
import Derived.Maps.OwnSet
import Derived.OneCell
import Derived.OrdersHeld
import Derived.OwnWalkIn
import Derived.RangeFuncBound
import Derived.RangeFuncCalls
import Derived.RangeFuncLeaves
import Derived.RangeFuncNested
import Derived.Shelf.Abstract
import Derived.Still
import Derived.TacticsInMore
import Derived.Test.YtmfpdakaeagdpaaGreatProg
import Derived.WalkKit
import Derived.WalkLawsBesides
import Derived.WalkSpells
namespace Go.Proofs.YtmfpdakaeagdpaaGreat
set_option maxRecDepth 100000
set_option maxHeartbeats 16000000
section
def maskBy (p:Nat→Bool) (cs:List Int):Nat→Nat
 | 0=>0
 | k+1=>if p k=true∧0≤cs[k]?.getD 0 then maskBy p cs k ||| 1 <<< (cs[k]?.getD 0).toNat else maskBy p cs k
theorem maskBy_bit {p:Nat→Bool} {cs:List Int} {x:Nat}:∀{k:Nat},(maskBy p cs k).testBit x=true↔∃j,j<k∧p j=true∧cs[j]?.getD 0=(x:Int):=by
 intro k
 induction k with
 | zero=>simp[maskBy]
 | succ k ih =>
  unfold maskBy
  by_cases h:p k=true∧0≤cs[k]?.getD 0
  ·rw[if_pos h,Nat.testBit_or,Bool.or_eq_true,ih,Nat.one_shiftLeft,Nat.testBit_two_pow,decide_eq_true_eq]
   constructor
   ·rintro (⟨j,hj,h1,h2⟩|e)
    ·exact ⟨j,by omega,h1,h2⟩
    ·exact ⟨k,by omega,h.1,by omega⟩
   ·rintro ⟨j,hj,h1,h2⟩
    by_cases e:j=k
    ·subst e;right;omega
    ·left;exact ⟨j,by omega,h1,h2⟩
  ·rw[if_neg h,ih]
   constructor
   ·rintro ⟨j,hj,h1,h2⟩;exact ⟨j,by omega,h1,h2⟩
   ·rintro ⟨j,hj,h1,h2⟩
    by_cases e:j=k
    ·subst e;exact absurd ⟨h1,by omega⟩ h
    ·exact ⟨j,by omega,h1,h2⟩
theorem maskBy_lt {p:Nat→Bool} {cs:List Int} {n:Nat} (h:∀j:Nat,cs[j]?.getD 0<(n:Int)):∀{k:Nat},maskBy p cs k<2 ^ n:=by
 intro k
 apply Nat.lt_pow_two_of_testBit
 intro i hi
 rw[Bool.eq_false_iff]
 intro e
 obtain ⟨j,_,_,e2⟩:=maskBy_bit.1 e
 have:=h j
 omega
def lineB (C c d:Nat):Bool:=c / C==d / C||c % C==d % C
def twiceB (C:Nat) (cs:List Int):Bool:=(List.range cs.length).any fun c=>(List.range c).any fun d=>lineB C c d&&cs[c]?.getD 0==cs[d]?.getD 0&&decide (0≤cs[c]?.getD 0)
theorem twiceB_true {C:Nat} {cs:List Int}:twiceB C cs=true↔∃c d,c<cs.length∧d<c∧lineB C c d=true∧cs[c]?.getD 0=cs[d]?.getD 0∧0≤cs[c]?.getD 0:=by
 unfold twiceB
 simp only[List.any_eq_true,List.mem_range,Bool.and_eq_true,beq_iff_eq,decide_eq_true_eq]
 constructor
 ·rintro ⟨c,hc,d,hd,⟨h1,h2⟩,h3⟩;exact ⟨c,d,hc,hd,h1,h2,h3⟩
 ·rintro ⟨c,d,hc,hd,h1,h2,h3⟩;exact ⟨c,hc,d,hd,⟨h1,h2⟩,h3⟩
def rowM (C:Nat) (cs:List Int) (k r:Nat):Nat:=maskBy (fun j=>j / C==r) cs k
def colM (C:Nat) (cs:List Int) (k r:Nat):Nat:=maskBy (fun j=>j % C==r) cs k
theorem twice_at {C:Nat} {cs:List Int} {k:Nat} (hk:k<cs.length) (h0:0≤cs[k]?.getD 0) (h:(rowM C cs k (k / C)).testBit (cs[k]?.getD 0).toNat=true∨(colM C cs k (k % C)).testBit (cs[k]?.getD 0).toNat=true):twiceB C cs=true:=by
 rw[twiceB_true]
 rcases h with h|h
 ·obtain ⟨j,hj,h1,h2⟩:=maskBy_bit.1 h
  exact ⟨k,j,hk,hj,by unfold lineB;simp only[beq_iff_eq] at h1;simp[h1],by omega,h0⟩
 ·obtain ⟨j,hj,h1,h2⟩:=maskBy_bit.1 h
  exact ⟨k,j,hk,hj,by unfold lineB;simp only[beq_iff_eq] at h1;simp[h1],by omega,h0⟩
def NoTwice (C:Nat) (cs:List Int) (k:Nat):Prop:=∀j,j<k→0≤cs[j]?.getD 0→(rowM C cs j (j / C)).testBit (cs[j]?.getD 0).toNat=false∧(colM C cs j (j % C)).testBit (cs[j]?.getD 0).toNat=false
theorem noTwice_end {C:Nat} {cs:List Int} (h:NoTwice C cs cs.length):twiceB C cs=false:=by
 rw[Bool.eq_false_iff]
 intro e
 obtain ⟨c,d,hc,hd,hl,he,h0⟩:=twiceB_true.1 e
 obtain ⟨h1,h2⟩:=h c hc h0
 unfold lineB at hl
 rw[Bool.or_eq_true,beq_iff_eq,beq_iff_eq] at hl
 rcases hl with hl|hl
 ·rw[Bool.eq_false_iff] at h1
  exact h1 (maskBy_bit.2 ⟨d,hd,by simp[hl],by omega⟩)
 ·rw[Bool.eq_false_iff] at h2
  exact h2 (maskBy_bit.2 ⟨d,hd,by simp[hl],by omega⟩)
theorem noTwice_zero {C:Nat} {cs:List Int}:NoTwice C cs 0:=fun j hj=>absurd hj (by omega)
theorem noTwice_succ {C:Nat} {cs:List Int} {k:Nat} (h:NoTwice C cs k) (hn:0≤cs[k]?.getD 0→(rowM C cs k (k / C)).testBit (cs[k]?.getD 0).toNat=false∧(colM C cs k (k % C)).testBit (cs[k]?.getD 0).toNat=false):NoTwice C cs (k+1):=by
 intro j hj
 by_cases e:j=k
 ·subst e;exact hn
 ·exact h j (by omega)
theorem rowM_succ {C:Nat} {cs:List Int} {k:Nat} (h0:0≤cs[k]?.getD 0) (r:Nat):rowM C cs (k+1) r=if k / C=r then rowM C cs k r ||| 1 <<< (cs[k]?.getD 0).toNat else rowM C cs k r:=by
 unfold rowM
 rw[maskBy]
 by_cases e:k / C=r
 ·rw[if_pos ⟨by simp[e],h0⟩,if_pos e]
 ·rw[if_neg (by simp[e]),if_neg e]
theorem colM_succ {C:Nat} {cs:List Int} {k:Nat} (h0:0≤cs[k]?.getD 0) (r:Nat):colM C cs (k+1) r=if k % C=r then colM C cs k r ||| 1 <<< (cs[k]?.getD 0).toNat else colM C cs k r:=by
 unfold colM
 rw[maskBy]
 by_cases e:k % C=r
 ·rw[if_pos ⟨by simp[e],h0⟩,if_pos e]
 ·rw[if_neg (by simp[e]),if_neg e]
theorem rowM_skip {C:Nat} {cs:List Int} {k:Nat} (h0:cs[k]?.getD 0<0) (r:Nat):rowM C cs (k+1) r=rowM C cs k r:=by
 unfold rowM
 rw[maskBy,if_neg (fun h=>by omega)]
theorem colM_skip {C:Nat} {cs:List Int} {k:Nat} (h0:cs[k]?.getD 0<0) (r:Nat):colM C cs (k+1) r=colM C cs k r:=by
 unfold colM
 rw[maskBy,if_neg (fun h=>by omega)]
def symE (low:Int) (C:Nat) (cs:List Int):Int:=if (cs.any fun x=>decide (x<low)||decide ((C:Int)≤x))=true then 3 else if twiceB C cs=true then 17 else 0
def sqB (rows cols:Int) (cs:List Int):Bool:=decide (rows=cols)&&decide (1≤rows)&&decide (rows≤16)&&decide ((cs.length:Int)=rows*cols)
def sqE (low rows cols:Int) (cs:List Int):Int:=if sqB rows cols cs=true then symE low cols.toNat cs else 2
structure Latin (n:Nat) (cs:List Int):Prop where
 len:cs.length=n*n
 pos:1≤n
 le:n≤16
 num:∀x,x∈cs→0≤x∧x<(n:Int)
 once:twiceB n cs=false
theorem sqE_ok {rows cols:Int} {cs:List Int} (h:sqE 0 rows cols cs=0):∃n:Nat,rows=(n:Int)∧cols=(n:Int)∧Latin n cs:=by
 unfold sqE at h
 by_cases h1:sqB rows cols cs=true
 ·rw[if_pos h1] at h
  unfold sqB at h1
  simp only[Bool.and_eq_true,decide_eq_true_eq] at h1
  obtain ⟨⟨⟨e1,e2⟩,e3⟩,e4⟩:=h1
  subst e1
  obtain ⟨n,rfl⟩:=Int.eq_ofNat_of_zero_le (show 0≤rows by omega)
  unfold symE at h
  by_cases h2:(cs.any fun x=>decide (x<0)||decide (((n:Int).toNat:Int)≤x))=true
  ·rw[if_pos h2] at h;cases h
  ·rw[if_neg h2] at h
   by_cases h3:twiceB (n:Int).toNat cs=true
   ·rw[if_pos h3] at h;cases h
   ·refine ⟨n,rfl,rfl,⟨by exact_mod_cast e4,by omega,by omega,fun x hx=>?_,by simpa using h3⟩⟩
    rw[List.any_eq_true] at h2
    by_cases hx0:0≤x∧x<(n:Int)
    ·exact hx0
    ·exact absurd ⟨x,hx,by rw[Bool.or_eq_true,decide_eq_true_eq,decide_eq_true_eq];simp only[Int.toNat_natCast];omega⟩ h2
 ·rw[if_neg h1] at h;cases h
end
section
def putAll (ps:List (Nat × Int)) (l:List Int):List Int:=ps.foldl (fun l p=>l.set p.1 p.2) l
theorem putAll_len {ps:List (Nat × Int)} {l:List Int}:(putAll ps l).length=l.length:=by
 unfold putAll
 induction ps generalizing l with
 | nil=>rfl
 | cons p ps ih=>rw[List.foldl_cons,ih,List.length_set]
theorem putAll_snoc {ps:List (Nat × Int)} {p:Nat × Int} {l:List Int}:putAll (ps++[p]) l=(putAll ps l).set p.1 p.2:=by
 unfold putAll
 rw[List.foldl_append]
 rfl
theorem putAll_get:∀{ps:List (Nat × Int)} {a:List Int} {p:Nat × Int},(ps.map (·.1)).Nodup→p∈ps→p.1<a.length→(putAll ps a)[p.1]?=some p.2:=by
 intro ps
 induction ps with
 | nil=>intro a p _ h;cases h
 | cons q ps ih =>
  intro a p hn hp hl
  rw[List.map_cons,List.nodup_cons] at hn
  show (putAll ps (a.set q.1 q.2))[p.1]?=some p.2
  rcases List.mem_cons.1 hp with rfl|hp
  ·have hno:∀{qs:List (Nat × Int)} {b:List Int},p.1 ∉ qs.map (·.1)→(putAll qs b)[p.1]?=b[p.1]?:=by
    intro qs
    induction qs with
    | nil=>intro b _;rfl
    | cons r qs ih2 =>
     intro b h
     rw[List.map_cons,List.mem_cons] at h
     show (putAll qs (b.set r.1 r.2))[p.1]?=b[p.1]?
     rw[ih2 (fun h2=>h (Or.inr h2)),List.getElem?_set,if_neg (fun e=>h (Or.inl e.symm))]
   rw[hno hn.1,List.getElem?_set,if_pos rfl,if_pos hl]
  ·exact ih hn.2 hp (by rw[List.length_set];exact hl)
end
section
open Go Go.RowKit
inductive PT where
 | leaf (s:List (Nat × Nat)):PT
 | fork (qs:List Nat) (i j:Nat) (ti tj:PT):PT
def PT.depth:PT→Nat
 | .leaf s=>s.length
 | .fork qs _ _ ti _=>qs.length+(ti.depth+1)
def KQ (K:Act→World→Prop) (Q:Exit→Act→World→Prop):Exit→Act→World→Prop
 | .normal,a,w=>K a w
 | e,a,w=>Q e a w
theorem keep_set {B:Nat} {w0 w:World} {p:Addr} (h:Below B w0 w) (hp:B≤p.block) (u:Value):Below B w0 (w.setCell p u):=h.setCell hp u
section
variable {P:Program} {ops:Array Oper} {Q:Exit→Act→World→Prop} {md:Region.Mode} {S:World→Prop}
def forkPre (md:Region.Mode) (ops:Array Oper) (lt:List Nat) (i j:Nat) (F:Array Bool→Bool):List Nat→Array Bool→Bool
 | [],listed=>((Region.ready md ops listed)==[i,j])&&F listed
 | k :: qs,listed =>
  (Region.ready md ops listed).contains k&&Region.free md ops listed k&&!lt.contains k&&lt.all (fun j=>(closure md ops ops.size (aftersOf md ops j)).contains k)&&forkPre md ops lt i j F qs (listed.setIfInBounds k true)
def treeOk (md:Region.Mode) (ops:Array Oper) (lt:List Nat):PT→Array Bool→Bool
 | .leaf s,listed=>decide (0<(s.filter fun x=>decide (x.1≤1)).length)&&seqOk md ops lt s listed
 | .fork qs i j ti tj,listed=>decide (tj.depth=ti.depth)&&!lt.contains i&&!lt.contains j &&
  forkPre md ops lt i j (fun l=>treeOk md ops lt ti (l.setIfInBounds i true)&&treeOk md ops lt tj (l.setIfInBounds j true)) qs listed
def wpTr (P:Program) (ops:Array Oper) (S:World→Prop) (Q:Exit→Act→World→Prop):PT→Act→World→Prop
 | .leaf s,a,w=>wpS P ops S Q (pickOps ops.toList s) a w
 | .fork qs i j ti tj,a,w=>wpS P ops S (KQ (wpTr P ops S Q ti) Q) (pickOps ops.toList (qs.map (fun k=>(0,k))++[(1,i)])) a w ∧
   wpS P ops S (KQ (wpTr P ops S Q tj) Q) (pickOps ops.toList (qs.map (fun k=>(0,k))++[(1,j)])) a w
theorem KQ_lets {K:Act→World→Prop} (h:LetsOut (KQ K Q)):LetsOut Q:=h
theorem loud_KQ {K:Act→World→Prop} {o:Oper} {a:Act} {w:World} (h:wpS P ops S (KQ K Q) [(1,o)] a w) :
  if Region.wanted o (yielded ops a.tmps) then o.wp P a w (fun a' w'=>S w'∧K a' w') Q∨(o.asks P a w∧LetsOut Q) else K (a.put o.dst undef) w:=by
 simp only[wpS] at h
 split
 ·rename_i hw
  rw[if_pos hw] at h
  rcases h with h|⟨h1,h2⟩
  ·left
   unfold Oper.wp at *
   generalize (execOp a.eval o).run P w=x at *
   cases x with
   | ok n w'=>cases n <;> simp only[Oper.upon] at h ⊢ <;> (try exact h) <;> (try exact h.2) <;> (try exact h.2.2)
   | halt x w'=>cases x <;> simp only[Oper.upon] at h ⊢ <;> exact h
  ·exact .inr ⟨h1,KQ_lets h2⟩
 ·rename_i hw
  rw[if_neg hw] at h
  exact h
theorem loud_K {lt:List Nat} {K:Act→World→Prop} {i:Nat} {listed:Array Bool} {d:Nat} {a:Act} {w:World}
  (hr:i∈Region.ready md ops listed) (_hnl:lt.contains i=false) (hS:S w)
  (hk:∀a' w',S w'→K a' w'→wpL P md ops Q S (fun i=>lt.contains i) d (listed.setIfInBounds i true) a' w') (h:wpS P ops S (KQ K Q) (pickOps ops.toList [(1,i)]) a w) :
  wpOp P ops Q i (fun a' w'=>(lt.contains i=false→S w')∧wpL P md ops Q S (fun i=>lt.contains i) d (listed.setIfInBounds i true) a' w') a w:=by
 obtain ⟨oi,hoi⟩:∃oi,ops[i]?=some oi:=by
  obtain ⟨_,oi,h1,_⟩:=(mem_ready (md:=md) (ops:=ops) (listed:=listed) (j:=i)).1 hr
  exact ⟨oi,h1⟩
 have hp:nthOp ops.toList i=some oi:=by rw[nthOp_eq];simpa using hoi
 simp only[pickOps,hp] at h
 have h2:=loud_KQ h
 refine wpOp_of_if hoi ?_
 split
 ·rename_i hw
  rw[if_pos hw] at h2
  exact h2.imp (Oper.wp_mono fun a' w' hx=>⟨fun _=>hx.1,hk a' w' hx.1 hx.2⟩) id
 ·rename_i hw
  rw[if_neg hw] at h2
  exact ⟨fun _=>hS,hk _ _ hS h2⟩
theorem wpL_of_pre (hs:Region.noSelect ops=true) (lt:List Nat) (i j:Nat) (F:Array Bool→Bool) (d:Nat) (Ki Kj:Act→World→Prop) (hQ:∀c a d v w,Q (.panic c) (Act.put a d v) w→Q (.panic c) a w)
  (hni:lt.contains i=false) (hnj:lt.contains j=false)
  (hF:∀listed,F listed=true→Closed md ops listed→(i∈Region.ready md ops listed→∀a' w',S w'→Ki a' w'→wpL P md ops Q S (fun i=>lt.contains i) d (listed.setIfInBounds i true) a' w')∧(j∈Region.ready md ops listed→∀a' w',S w'→Kj a' w'→wpL P md ops Q S (fun i=>lt.contains i) d (listed.setIfInBounds j true) a' w')) :
  ∀(qs:List Nat) (listed:Array Bool) (a:Act) (w:World),Closed md ops listed→S w→forkPre md ops lt i j F qs listed=true →
   wpS P ops S (KQ Ki Q) (pickOps ops.toList (qs.map (fun k=>(0,k))++[(1,i)])) a w→wpS P ops S (KQ Kj Q) (pickOps ops.toList (qs.map (fun k=>(0,k))++[(1,j)])) a w →
   wpL P md ops Q S (fun i=>lt.contains i) (qs.length+(d+1)) listed a w
 | [],listed,a,w,hcl,hSw,hc,h1,h2=>by
  simp only[forkPre,Bool.and_eq_true,beq_iff_eq] at hc
  obtain ⟨hr,hc1⟩:=hc
  rw[show ([]:List Nat).length+(d+1)=d+1 from by simp]
  refine ⟨fun h0=>absurd (hr▸h0) (by simp),fun k hk=>?_⟩
  have hk':=hk
  rw[hr] at hk'
  rcases List.mem_cons.1 hk' with rfl|hk2
  ·exact loud_K hk hni hSw ((hF listed hc1 hcl).1 hk) h1
  ·obtain rfl:k=j:=by simpa using hk2
   exact loud_K hk hnj hSw ((hF listed hc1 hcl).2 hk) h2
 | k :: qs,listed,a,w,hcl,hSw,hc,h1,h2=>by
  simp only[forkPre,Bool.and_eq_true] at hc
  obtain ⟨⟨⟨⟨hr,hf⟩,hnl⟩,hla⟩,hc'⟩:=hc
  obtain ⟨oi,hoi⟩:∃oi,ops[k]?=some oi:=by
   obtain ⟨_,oi,h1,_⟩:=(mem_ready (md:=md) (ops:=ops) (listed:=listed) (j:=k)).1 (by simpa using hr)
   exact ⟨oi,h1⟩
  have hp:nthOp ops.toList k=some oi:=by rw[nthOp_eq];simpa using hoi
  have hnl':lt.contains k=false:=by simpa using hnl
  have hlate:∀j listed,lt.contains j=true→Closed md ops listed→j∈Region.ready md ops listed→listed.getD k false=true:=by
   intro j listed' hl hcl' hj
   have h1:=List.all_eq_true.1 hla j (by simpa using hl)
   exact closure_listed hcl' _ _ (ready_afters hj) k (by simpa using h1)
  simp only[List.map_cons,List.cons_append,pickOps,hp,wpS] at h1 h2
  rw[show (k :: qs).length+(d+1)=(qs.length+(d+1))+1 from by simp only[List.length_cons];omega]
  have key:∀v,YieldsIf P ops S oi v a→wpS P ops S (KQ Ki Q) (pickOps ops.toList (qs.map (fun k=>(0,k))++[(1,i)])) (a.put oi.dst v) w→wpS P ops S (KQ Kj Q) (pickOps ops.toList (qs.map (fun k=>(0,k))++[(1,j)])) (a.put oi.dst v) w→wpL P md ops Q S (fun i=>lt.contains i) (qs.length+(d+1)+1) listed a w:=by
   intro v hy k1 k2
   exact wpL_first hoi (Region.noSelect_spec hs) (fun c a' w'=>hQ c a' _ _ w') hnl' hlate (qs.length+(d+1)) listed a w hcl (Region.free_spec hoi hf) (by simpa using hr) hy hSw
    (wpL_of_pre hs lt i j F d Ki Kj hQ hni hnj hF qs _ _ w (hcl.set (by simpa using hr)) hSw hc' k1 k2)
  by_cases hw:Region.wanted oi (yielded ops a.tmps)=true
  ·rw[if_pos hw] at h1 h2
   obtain ⟨v,hv,hK⟩:=h1
   obtain ⟨v2,hv2,hK2⟩:=h2
   have e:=(hv w hSw).symm.trans (hv2 w hSw)
   simp only[Result.ok.injEq,Next.value.injEq,and_true] at e
   subst e
   exact key v (.inl ⟨hw,hv⟩) hK hK2
  ·rw[if_neg hw] at h1 h2
   exact key undef (.inr ⟨by simpa using hw,rfl⟩) h1 h2
theorem wpL_of_tree (hs:Region.noSelect ops=true) (lt:List Nat) (hQ:∀c a d v w,Q (.panic c) (Act.put a d v) w→Q (.panic c) a w) :
  ∀(t:PT) (listed:Array Bool) (a:Act) (w:World),Closed md ops listed→S w→treeOk md ops lt t listed=true→wpTr P ops S Q t a w →
   wpL P md ops Q S (fun i=>lt.contains i) t.depth listed a w
 | .leaf s,listed,a,w,hcl,hSw,hc,h=>by
  simp only[treeOk,Bool.and_eq_true] at hc
  exact wpL_of_S hs lt hQ s listed a w hcl (fun _=>hSw) hc.2 h
 | .fork qs i j ti tj,listed,a,w,hcl,hSw,hc,h=>by
  simp only[treeOk,Bool.and_eq_true,decide_eq_true_eq] at hc
  obtain ⟨⟨⟨hd,hni⟩,hnj⟩,hpre⟩:=hc
  refine wpL_of_pre hs lt i j _ ti.depth (wpTr P ops S Q ti) (wpTr P ops S Q tj) hQ (by simpa using hni) (by simpa using hnj) (fun l hl hcl2=>?_) qs listed a w hcl hSw hpre h.1 h.2
  simp only[Bool.and_eq_true] at hl
  refine ⟨fun hr a' w' hS' hK=>wpL_of_tree hs lt hQ ti _ a' w' (hcl2.set hr) hS' hl.1 hK,fun hr a' w' hS' hK=>?_⟩
  rw[← hd]
  exact wpL_of_tree hs lt hQ tj _ a' w' (hcl2.set hr) hS' hl.2 hK
theorem wpTr_end {S:World→Prop} {K:Act→World→Prop} {a:Act} {w:World} (h:K a w):wpS P ops S (KQ K Q) [] a w:=by rw[wpS];exact h
theorem wp_region_tree {id:Nat} {l:List Oper} {a:Act} {w:World} (S:World→Prop) (lt:List Nat) (t:PT)
  (hm:P.follows .mixedOrders=true) (hc:(Region.noSelect l.toArray&&decide (t.depth≤l.length)&&treeOk .any l.toArray lt t (Array.replicate l.length false))=true)
  (hS:S w.drew) (h:wpTr P l.toArray S (NoPanic Q) t a w.drew):(Code.region id l.toArray true).wp P Q a w:=by
 refine wp_region_noPanic ?_
 simp only[Bool.and_eq_true,decide_eq_true_eq] at hc
 obtain ⟨⟨hs,hlen⟩,hc⟩:=hc
 refine wp_region_any hm ?_
 obtain ⟨m,hm'⟩:∃m,l.toArray.size=t.depth+m:=⟨l.length - t.depth,by simp;omega⟩
 rw[hm']
 refine wpAny_more _ _ _ _ _ (wpAny_of_L (S:=S) (late:=fun i=>lt.contains i) _ _ _ _ ?_)
 have e:Array.replicate (t.depth+m) false=Array.replicate l.length false:=by rw[← hm'];simp
 rw[e]
 exact wpL_of_tree hs lt (fun _ _ _ _ _ h=>h) t _ a w.drew (closed_none _) hS hc h
end
end
section
open Go Go.RowKit Go.Maps
section
variable {α:Type} {P:Program} {k e:TypeId} {κ:α→Lit} {b n:Nat} {w:World}
def MapI (w:World) (P:Program) (k e:TypeId) (κ:α→Lit) (b n:Nat) (g:α→Option Int):Prop :=
 ∃D:DataW Unit,w.ownsMap P k (plainElem P e) b n D∧∀x,has D (κ x)=(g x).isSome∧∀c,g x=some c→∀z,D.atKey (κ x) z = .lit (.int .i64 c)
def MapB (w:World) (P:Program) (k e:TypeId) (κ:α→Lit) (b n:Nat) (g:α→Bool):Prop :=
 ∃D:DataW Unit,w.ownsMap P k (plainElem P e) b n D∧∀x,D.atKey (κ x) (.lit (.bool false)) = .lit (.bool (g x))
theorem own_block {D:DataW Unit} {w':World} {R:Value→Option (DataW Unit × List MemPlace)} (h:w.ownsMap P k R b n D) (hb:w'.heap[b]?=w.heap[b]?):w'.ownsMap P k R b n D:=by
 obtain ⟨es,clock,h1,r⟩:=h
 exact ⟨es,clock,hb.trans h1,r⟩
theorem MapI.lt {g:α→Option Int} (h:MapI w P k e κ b n g):b<w.heap.size:=by obtain ⟨D,h1,_⟩:=h;exact h1.lt
theorem MapB.lt {g:α→Bool} (h:MapB w P k e κ b n g):b<w.heap.size:=by obtain ⟨D,h1,_⟩:=h;exact h1.lt
theorem MapI.block {g:α→Option Int} (h:MapI w P k e κ b n g) {w':World} (hb:w'.heap[b]?=w.heap[b]?):MapI w' P k e κ b n g:=by
 obtain ⟨D,h1,h2⟩:=h
 exact ⟨D,own_block h1 hb,h2⟩
theorem MapB.block {g:α→Bool} (h:MapB w P k e κ b n g) {w':World} (hb:w'.heap[b]?=w.heap[b]?):MapB w' P k e κ b n g:=by
 obtain ⟨D,h1,h2⟩:=h
 exact ⟨D,own_block h1 hb,h2⟩
theorem MapI.mono {g:α→Option Int} (h:MapI w P k e κ b n g) {B:Nat} {w':World} (hb:Below B w w') (hlt:b<B):MapI w' P k e κ b n g:=h.block (hb.block b hlt)
theorem MapB.mono {g:α→Bool} (h:MapB w P k e κ b n g) {B:Nat} {w':World} (hb:Below B w w') (hlt:b<B):MapB w' P k e κ b n g:=h.block (hb.block b hlt)
theorem MapI.made:MapI (w.alloc (.map #[] 0)) P k e κ w.heap.size 0 (fun _=>none):=⟨_,World.ownsMap_made _ _ _ _,fun _=>⟨rfl,fun _ h=>by cases h⟩⟩
theorem plainElem_bool_inv (he:P.underlying e=some .bool) {v:Value} {z:DataW Unit × List MemPlace} (h:plainElem P e v=some z):∃x,v = .bool x∧z=(.lit (.bool x),[]):=by
 unfold plainElem at h
 rw[he] at h
 cases v <;> simp at h
 exact ⟨_,rfl,h.symm⟩
end
section
variable {α:Type} [DecidableEq α] {P:Program} (w:World) {ops:Array Oper} {rest:List Oper} {o:Oper} {a:Act} {Q:Exit→Act→World→Prop}
theorem wpList_putI (hg:o.guard=none) (m x v:Operand) (t:TypeId) (hop:o.op=Op.mapUpdate t m x v) (k e:TypeId) (K:Keyed P k) (ht:P.underlying t=some (.map k e)) (he:P.underlying e=some (.int .i64))
  (κ:α→Lit) (hinj:∀x y,κ x=κ y→x=y) (b n:Nat) (g:α→Option Int) (hm:a.eval m = .map (some b)) (h:MapI w P k e κ b n g) (hn:n<maxLen) (key:Value) (y:α) (c:Int) (hx:a.eval x=key) (hv:a.eval v = .int .i64 c)
  (hkey:keyOf P k key=some (κ y)) (hwf:(Lit.int .i64 c).wf=true)
  (hK:∀w',MapI w' P k e κ b (n+1) (fun z=>if z=y then some c else g z)→w.grownBy w' (some b)→wpList P ops Q rest (a.put o.dst undef) w') :
  wpList P ops Q (o :: rest) a w:=by
 obtain ⟨D,h1,h2⟩:=h
 refine wpList_mapUpdate_own w hg m x v t hop k e K ht (plainElem P e) b n D hm h1 hn key (.int .i64 c) (κ y) hx hv hkey (.lit (.int .i64 c)) [] (plainElem_int he hwf) (fun w' h3 h4=>hK w' ⟨_,h3,fun z=>?_⟩ h4)
 by_cases e1:z=y
 ·subst e1
  dsimp only
  rw[if_pos rfl]
  exact ⟨has_put_same h1.isMap (K.key hkey) _,fun c2 e2 z2=>by cases e2;exact atKey_put_same h1.isMap (K.key hkey) _ _⟩
 ·dsimp only
  rw[if_neg e1,has_put_other (fun e2=>e1 (hinj _ _ e2))]
  exact ⟨(h2 z).1,fun c2 e2 z2=>by rw[atKey_put_other (fun e3=>e1 (hinj _ _ e3))];exact (h2 z).2 c2 e2 z2⟩
end
section
variable {α:Type} {P:Program} (w:World) {ops:Array Oper} {rest:List Oper} {o:Oper} {a:Act} {Q:Exit→Act→World→Prop}
theorem wpList_lookI (hg:o.guard=none) (m x:Operand) (t:TypeId) (hop:o.op=Op.lookup t m x true) (k e:TypeId) (K:Keyed P k) (ht:P.underlying t=some (.map k e)) (he:P.underlying e=some (.int .i64)) (hz:(zeroValue e).run P w = .ok (.int .i64 0) w)
  (κ:α→Lit) (b n:Nat) (g:α→Option Int) (hm:a.eval m = .map (some b)) (h:MapI w P k e κ b n g) (key:Value) (y:α) (hx:a.eval x=key) (hkey:keyOf P k key=some (κ y))
  (hK:wpList P ops Q rest (a.put o.dst (.tuple #[.int .i64 ((g y).getD 0),.bool (g y).isSome])) w) :
  wpList P ops Q (o :: rest) a w:=by
 obtain ⟨D,h1,h2⟩:=h
 refine wpList_lookup_own_ok_int w hg m x t hop k e .i64 K ht he hz b n D hm h1 key (κ y) hx hkey (fun c h3 _=>?_)
 rw[(h2 y).1]
 cases hgy:g y with
 | some d =>
  rw[(h2 y).2 d hgy] at h3
  cases h3
  rw[hgy] at hK
  exact hK
 | none =>
  have h4:has D (κ y)=false:=by rw[(h2 y).1,hgy];rfl
  rw[atKey_of_not_has h4] at h3
  cases h3
  rw[hgy] at hK
  exact hK
theorem wpList_lookB (hg:o.guard=none) (m x:Operand) (t:TypeId) (hop:o.op=Op.lookup t m x false) (k e:TypeId) (K:Keyed P k) (ht:P.underlying t=some (.map k e)) (he:P.underlying e=some .bool) (hz:(zeroValue e).run P w = .ok (.bool false) w)
  (κ:α→Lit) (b n:Nat) (g:α→Bool) (hm:a.eval m = .map (some b)) (h:MapB w P k e κ b n g) (key:Value) (y:α) (hx:a.eval x=key) (hkey:keyOf P k key=some (κ y))
  (hK:wpList P ops Q rest (a.put o.dst (.bool (g y))) w) :
  wpList P ops Q (o :: rest) a w:=by
 obtain ⟨D,h1,h2⟩:=h
 refine wpList_plain hg fun K' hK'=>?_
 obtain ⟨v,ps,hrun,hv⟩:=h1.lookup K ht hz (plainElem_bool he false) hkey
 obtain ⟨c,rfl,hc⟩:=plainElem_bool_inv he hv
 simp only[Prod.mk.injEq] at hc
 rw[h2 y] at hc
 have:g y=c:=by have:=hc.1;cases this;rfl
 rw[this] at hK
 unfold Oper.wp
 simp[execOp,hop,hm,hx,hrun,Result.andThen]
 exact hK' _ _ hK
end
end
section
open Go Go.RowKit
attribute [local go_sem] over_cell
attribute [local go_sem] Oper.semAt_some
theorem twhen_c (h:Bool) (e:Int) (w:World):Calls Tryz.prog 93 #[.bool h,.int .i64 e] w fun r w'=>r = .returned (.int .i64 (whenV h e))∧w=w':=by
 cases h
 ·go_enter Tryz.func93,Tryz.ntmps93
  go_wp2
  go_ret
  exact ⟨rfl,rfl⟩
 ·go_enter Tryz.func93,Tryz.ntmps93
  go_wp2
  go_ret
  exact ⟨rfl,rfl⟩
theorem tfirst_c (a:Option Addr) (n c:Nat) (xs:List Int) (w:World) (h:IC w a n xs) :
  Calls Tryz.prog 92 #[.slice a n c] w fun e w'=>e = .returned (.int .i64 (firstL xs))∧w=w':=by
 have hm:=h.small
 go_enter Tryz.func92,Tryz.ntmps92
 go_wp2
 go_loop [4,7] (fun _ i=>∃k:Nat,k≤n∧i = .int .i64 k∧Hid (∀j,j<k→xs[j]?.getD 0=0)) (fun _ i=>n - (intOf i).toNat)
 case atStart=>exact ⟨0,by omega,rfl,fun j hj=>absurd hj (by omega)⟩
 case round =>
  obtain ⟨k,hk,rfl,hn⟩:=hrel
  by_cases hlt:k<n
  ·obtain ⟨b,off,rfl,hb,hc⟩:=h.2 k hlt
   go_wp2
   ·have he:(xs[k]?.getD 0 != 0)=true:=by assumption
    go_ret
    exact ⟨ret_int (firstL_hit hn.out (by rw[h.len];exact hlt) (by simpa using he)).symm,rfl⟩
   ·have he:(xs[k]?.getD 0 != 0)=false:=by assumption
    go_round
    case rel=>exact ⟨k+1,by omega,by go_num,upI_snoc (f:=fun j=>xs[j]?.getD 0) hn.out (by simpa using he)⟩
    case measure=>simp[intOf];omega
  ·have e:k=n:=by omega
   subst e
   go_wp2
   go_ret
   exact ⟨ret_int (firstL_none (by rw[h.len];exact hn.out)).symm,rfl⟩
end
section
open Go Go.RowKit
attribute [local go_sem] over_cell
theorem and_bit32 (v r:Nat) (hv:v<4294967296):(bits BinOp.and IntKind.u32 ((v:Int) / 2 ^ r) 1==1)=v.testBit r:=by
 have e:((v:Int) / 2 ^ r)=((v / 2 ^ r:Nat):Int):=by simp
 have hlt:v / 2 ^ r<4294967296:=Nat.lt_of_le_of_lt (Nat.div_le_self _ _) hv
 rw[e,show (1:Int)=((1:Nat):Int) from rfl,u32_and_nat _ _ hlt (by decide)]
 rw[Nat.testBit_eq_decide_div_mod_eq,Nat.and_one_is_mod]
 have:v / 2 ^ r % 2=0∨v / 2 ^ r % 2=1:=by omega
 rcases this with h|h <;> simp[h]
theorem or_bit32 (v r:Nat) (hv:v<4294967296) (hr:r<32):bits BinOp.or IntKind.u32 (v:Int) (IntKind.u32.wrap (2 ^ r))=((v ||| 1 <<< r:Nat):Int):=by
 have h2:2 ^ r<4294967296:=by
  rw[show (4294967296:Nat)=2 ^ 32 from by decide];exact Nat.pow_lt_pow_right (by decide) hr
 have e:IntKind.u32.wrap (2 ^ r)=((2 ^ r:Nat):Int):=by
  rw[IntKind.wrap_u32']
  have:((2:Int) ^ r)=((2 ^ r:Nat):Int):=by simp
  rw[this]
  generalize 2 ^ r=m at h2 ⊢
  omega
 rw[e,u32_or_nat _ _ hv h2,Nat.one_shiftLeft]
theorem syhas_c (m:Nat) (x:Int) (w:World) (hm:m<4294967296) (h0:0≤x) (h1:x<32) :
  Calls Tryz.prog 117 #[.int .u32 (m:Int),.int .i64 x] w fun e w'=>e = .returned (.bool (m.testBit x.toNat))∧w=w':=by
 have hE:Hid ((bits BinOp.and IntKind.u32 ((m:Int) / 2 ^ x.toNat) 1==1)=m.testBit x.toNat):=and_bit32 _ _ hm
 generalize m.testBit x.toNat=b at hE
 go_enter Tryz.func117,Tryz.ntmps117
 go_wp2
 go_ret
 exact ⟨ret_bool hE.out,rfl⟩
theorem sywith_c (m:Nat) (x:Int) (w:World) (hm:m<4294967296) (h0:0≤x) (h1:x<32) :
  Calls Tryz.prog 115 #[.int .u32 (m:Int),.int .i64 x] w fun e w'=>e = .returned (.int .u32 ((m ||| 1 <<< x.toNat:Nat):Int))∧w=w':=by
 have hE:Hid (bits BinOp.or IntKind.u32 (m:Int) (2 ^ x.toNat % 4294967296)=((m ||| 1 <<< x.toNat:Nat):Int)):=by
  have h:=or_bit32 m x.toNat hm (by omega)
  rw[IntKind.wrap_u32'] at h
  exact h
 generalize m ||| 1 <<< x.toNat=b at hE
 go_enter Tryz.func115,Tryz.ntmps115
 go_wp2
 go_ret
 exact ⟨by rw[hE.out];rfl,rfl⟩
theorem isOrder_c (n:Int) (w:World):Calls Tryz.prog 113 #[.int .i64 n] w fun e w'=>e = .returned (.bool (decide (1≤n)&&decide (n≤16)))∧w=w':=by
 by_cases h1:1≤n
 ·have hd:decide (1≤n)=true:=decide_eq_true h1
  go_enter Tryz.func113,Tryz.ntmps113
  go_wp2
  go_ret
  exact ⟨by rw[hd];rfl,rfl⟩
 ·have hd:decide (1≤n)=false:=decide_eq_false h1
  go_enter Tryz.func113,Tryz.ntmps113
  go_wp2
  go_ret
  exact ⟨rfl,rfl⟩
end
section
open Go Go.RowKit
attribute [local go_sem] over_cell
attribute [local go_sem] over_frozen
theorem put_no (b:Nat) (i j m1 m2:Nat) (x:Int) (w:World) (hi:i<16) (hj:j<16) (h0:0≤x) (h1:x<32) (hm1:m1<4294967296) (hm2:m2<4294967296) (_hb:b<w.heap.size)
  (c1:w.cell? ⟨b,i,none⟩=some (.int .u32 (m1:Int))) (c2:w.cell? ⟨b,16+j,none⟩=some (.int .u32 (m2:Int))) (hno:(m1.testBit x.toNat||m2.testBit x.toNat)=true) :
  Calls Tryz.prog 155 #[.pointer (some ⟨b,0,none⟩),.int .i64 (i:Int),.int .i64 (j:Int),.int .i64 x] w fun e w'=>e = .returned (.bool false)∧w=w':=by
 have H1:=Lib.hid (fun W=>syhas_c m1 x W hm1 h0 h1)
 have H2:=Lib.hid (fun W=>syhas_c m2 x W hm2 h0 h1)
 generalize m1.testBit x.toNat=b1 at H1 hno
 generalize m2.testBit x.toNat=b2 at H2 hno
 have hi2:(i:Int)<16:=by omega
 have hj2:(j:Int)<16:=by omega
 cases b1 with
 | true =>
  go_enter Tryz.func155,Tryz.ntmps155
  go_wp2_with (first|(go_at_call 117;first|(refine (H1.out _).mono ?_;rintro _ w1 ⟨rfl,rfl⟩)))
  go_ret
  exact ⟨rfl,rfl⟩
 | false =>
  cases b2 with
  | false=>cases hno
  | true =>
   go_enter Tryz.func155,Tryz.ntmps155
   go_wp2_with fail
   refine (H1.out _).mono ?_
   rintro _ w1 ⟨rfl,rfl⟩
   go_wp2_with fail
   refine (H2.out _).mono ?_
   rintro _ w1 ⟨rfl,rfl⟩
   go_wp2_with fail
   go_ret
   exact ⟨rfl,rfl⟩
theorem put_yes (b:Nat) (i j m1 m2:Nat) (x:Int) (w:World) (hi:i<16) (hj:j<16) (h0:0≤x) (h1:x<32) (hm1:m1<4294967296) (hm2:m2<4294967296) (hb:b<w.heap.size)
  (c1:w.cell? ⟨b,i,none⟩=some (.int .u32 (m1:Int))) (c2:w.cell? ⟨b,16+j,none⟩=some (.int .u32 (m2:Int))) (f1:w.frozen? ⟨b,i,none⟩=false) (f2:w.frozen? ⟨b,16+j,none⟩=false) (hno:(m1.testBit x.toNat||m2.testBit x.toNat)=false) :
  Calls Tryz.prog 155 #[.pointer (some ⟨b,0,none⟩),.int .i64 (i:Int),.int .i64 (j:Int),.int .i64 x] w fun e w'=>e = .returned (.bool true)∧w'=((w.setCell ⟨b,i,none⟩ (.int .u32 ((m1 ||| 1 <<< x.toNat:Nat):Int))).setCell ⟨b,16+j,none⟩ (.int .u32 ((m2 ||| 1 <<< x.toNat:Nat):Int))).drew:=by
 rw[Bool.or_eq_false_iff] at hno
 have H1:=Lib.hid (fun W=>syhas_c m1 x W hm1 h0 h1)
 have H2:=Lib.hid (fun W=>syhas_c m2 x W hm2 h0 h1)
 rw[hno.1] at H1
 rw[hno.2] at H2
 have W1:=Lib.hid (fun W=>sywith_c m1 x W hm1 h0 h1)
 have W2:=Lib.hid (fun W=>sywith_c m2 x W hm2 h0 h1)
 generalize m1 ||| 1 <<< x.toNat=n1 at W1 ⊢
 generalize m2 ||| 1 <<< x.toNat=n2 at W2 ⊢
 have hi2:(i:Int)<16:=by omega
 have hj2:(j:Int)<16:=by omega
 go_enter Tryz.func155,Tryz.ntmps155
 go_wp2_with fail
 refine (H1.out _).mono ?_
 rintro _ w1 ⟨rfl,rfl⟩
 go_wp2_with fail
 refine (H2.out _).mono ?_
 rintro _ w1 ⟨rfl,rfl⟩
 go_wp2_with fail
 refine wp_region_T (fun w'=>∃u,w'=over (w) u) [0,1,2,3,4,5,6,7,8,10,12,13,14,15,16,18,20,21,24,25] [19,22,23,26,27] [(0,9),(0,17),(1,11),(2,19),(2,22),(2,23),(2,26),(2,27)] (by kernel_rfl) (by kernel_rfl) (by exact ⟨_,below_over (by repeat (first|assumption|exact Below.refl _ _|refine keep_drew ?_|refine keep_alloc ?_ _|refine keep_trans ?_ (by assumption)))⟩) ?_
 dsimp only[pickF,nthOp]
 repeat (first|(refine wpF_skip rfl (fun K hK=>?_);go_big_quiet_op;refine hK _ ?_;clear hK K)|(refine wpF_quiet rfl rfl (fun K hK=>?_);go_big_quiet_op;refine hK _ ?_;clear hK K))
 refine wpF_end ?_
 dsimp only[pickOps,nthOp]
 repeat (first|(refine wpS_skip rfl (fun K hK=>?_);go_big_quiet_op;refine hK _ ?_;clear hK K)|(refine wpS_quiet rfl rfl (fun K hK=>?_);go_big_quiet_op;refine hK _ ?_;clear hK K)|(refine wpS_loud ?_;go_wp2_with (go_at_call 115;first|(refine (W1.out _).mono ?_;rintro _ w1 ⟨rfl,rfl⟩)|(refine (W2.out _).mono ?_;rintro _ w1 ⟨rfl,rfl⟩));refine ⟨?_,?_⟩;focus (exact ⟨_,below_over (by repeat (first|assumption|exact Below.refl _ _|refine keep_drew ?_|refine keep_alloc ?_ _|refine keep_trans ?_ (by assumption)))⟩)))
 refine wpS_late _ _ _ rfl ?_
 dsimp only[List.map]
 go_wp2_with (go_at_call 115;first|(refine (W1.out _).mono ?_;rintro _ w1 ⟨rfl,rfl⟩)|(refine (W2.out _).mono ?_;rintro _ w1 ⟨rfl,rfl⟩))
 refine NoPanic.normal ?_
 go_wp2_with fail
 go_ret
 exact ⟨rfl,rfl⟩
end
section
open Go Go.RowKit
attribute [local go_sem] over_cell
attribute [local go_sem] Oper.semAt_some
theorem chk1_c (x low N:Int) (b1 b2:Nat) (w:World) (h1:w.cell? ⟨b1,0,none⟩=some (.int .i64 low)) (h2:w.cell? ⟨b2,0,none⟩=some (.int .i64 N)) :
  Calls Tryz.prog 166 #[.int .i64 x,.pointer (some ⟨b1,0,none⟩),.pointer (some ⟨b2,0,none⟩)] w fun e w'=>e = .returned (.bool (decide (x<low)||decide (N≤x)))∧w=w':=by
 by_cases h:x<low
 ·have hd:decide (x<low)=true:=decide_eq_true h
  go_enter Tryz.func166,Tryz.ntmps166
  go_wp2
  go_ret
  exact ⟨by rw[hd];rfl,rfl⟩
 ·have hd:decide (x<low)=false:=decide_eq_false h
  go_enter Tryz.func166,Tryz.ntmps166
  go_wp2
  go_ret
  exact ⟨rfl,rfl⟩
theorem chk1_fn:∀(args:Array Value) (w:World),Sem.run Tryz.prog (callFunc 166 args) w = .ok (.enter 166 args) w:=by
 intro args w;kernel_rfl
theorem anyP_any {f:Int→Bool} {cs:List Int}:anyP (fun k=>f (cs[k]?.getD 0)) cs.length=cs.any f:=by
 rw[Bool.eq_iff_iff]
 unfold anyP
 rw[List.any_eq_true,List.any_eq_true]
 constructor
 ·rintro ⟨k,hk,e⟩
  rw[List.mem_range] at hk
  rw[List.getElem?_eq_getElem hk,Option.getD_some] at e
  exact ⟨cs[k],List.getElem_mem hk,e⟩
 ·rintro ⟨x,hx,e⟩
  obtain ⟨k,hk,e2⟩:=List.getElem_of_mem hx
  exact ⟨k,List.mem_range.2 hk,by rw[List.getElem?_eq_getElem hk,Option.getD_some,e2];exact e⟩
theorem sc_other {w:World} {b i j:Nat} {v:Value} (h:i≠j):(w.setCell ⟨b,i,none⟩ v).cell? ⟨b,j,none⟩=w.cell? ⟨b,j,none⟩:=World.cell?_setCell_other _ _ _ _ (fun e=>h (congrArg Addr.off e))
theorem sc_same {w:World} {b i:Nat} {u v:Value} (h:w.cell? ⟨b,i,none⟩=some u):(w.setCell ⟨b,i,none⟩ v).cell? ⟨b,i,none⟩=some v:=World.cell?_setCell_same _ _ _ h
structure TkW (w:World) (b:Nat) (R K:Nat→Nat):Prop where
 lt:b<w.heap.size
 row:∀i,i<16→w.cell? ⟨b,i,none⟩=some (.int .u32 (R i:Int))∧w.frozen? ⟨b,i,none⟩=false
 col:∀i,i<16→w.cell? ⟨b,16+i,none⟩=some (.int .u32 (K i:Int))∧w.frozen? ⟨b,16+i,none⟩=false
theorem TkW.put {w:World} {b:Nat} {R K:Nat→Nat} (h:TkW w b R K) {i j n1 n2:Nat} (hi:i<16) (hj:j<16) :
  TkW ((w.setCell ⟨b,i,none⟩ (.int .u32 (n1:Int))).setCell ⟨b,16+j,none⟩ (.int .u32 (n2:Int))).drew b (fun r=>if r=i then n1 else R r) (fun r=>if r=j then n2 else K r):=by
 refine ⟨?_,fun r hr=>⟨?_,?_⟩,fun r hr=>⟨?_,?_⟩⟩
 ·have:=h.lt
  simpa [World.drew,World.setCell] using this
 ·show ((w.setCell _ _).setCell _ _).cell? _=_
  rw[sc_other (by omega)]
  by_cases e:r=i
  ·subst e
   rw[sc_same (h.row r hr).1,if_pos rfl]
  ·rw[sc_other (fun e2=>e e2.symm),(h.row r hr).1,if_neg e]
 ·show ((w.setCell _ _).setCell _ _).frozen? _=_
  rw[World.frozen?_setCell,World.frozen?_setCell]
  exact (h.row r hr).2
 ·show ((w.setCell _ _).setCell _ _).cell? _=_
  by_cases e:r=j
  ·subst e
   rw[sc_same (u := .int .u32 (K r:Int)) (by rw[sc_other (by omega)];exact (h.col r hr).1),if_pos rfl]
  ·rw[sc_other (by omega),sc_other (by omega),(h.col r hr).1,if_neg e]
 ·show ((w.setCell _ _).setCell _ _).frozen? _=_
  rw[World.frozen?_setCell,World.frozen?_setCell]
  exact (h.col r hr).2
theorem TkW.mono {w w':World} {b:Nat} {R K:Nat→Nat} (h:TkW w b R K) {B:Nat} (hb:Below B w w') (hlt:b<B):TkW w' b R K :=
 ⟨Nat.lt_of_lt_of_le h.lt hb.size,fun i hi=>⟨(hb.cell hlt).trans (h.row i hi).1,(hb.frozen hlt).trans (h.row i hi).2⟩,fun i hi=>⟨(hb.cell hlt).trans (h.col i hi).1,(hb.frozen hlt).trans (h.col i hi).2⟩⟩
theorem TkW.same {w:World} {b:Nat} {R K R' K':Nat→Nat} (h:TkW w b R K) (h1:∀i,i<16→R i=R' i) (h2:∀i,i<16→K i=K' i):TkW w b R' K' :=
 ⟨h.lt,fun i hi=>by rw[← h1 i hi];exact h.row i hi,fun i hi=>by rw[← h2 i hi];exact h.col i hi⟩
end
end Go.Proofs.YtmfpdakaeagdpaaGreat
