/- Texts C1 to J124 of this proof, in one file. -/
import Derived.Test.YtmfpdakaeagdpaaGreatW01
import Derived.Test.YtmfpdakaeagdpaaGreatW02
import Derived.Test.YtmfpdakaeagdpaaGreatW03
import Derived.Test.YtmfpdakaeagdpaaGreatW04
import Derived.Test.YtmfpdakaeagdpaaGreatW05
import Derived.Test.YtmfpdakaeagdpaaGreatW06
import Derived.Test.YtmfpdakaeagdpaaGreatW07
import Derived.Test.YtmfpdakaeagdpaaGreatW08
import Derived.Test.YtmfpdakaeagdpaaGreatW09
import Derived.Test.YtmfpdakaeagdpaaGreatW10
import Derived.Test.YtmfpdakaeagdpaaGreatW11
import Derived.Test.YtmfpdakaeagdpaaGreatW12
import Derived.Test.YtmfpdakaeagdpaaGreatW13
import Derived.Test.YtmfpdakaeagdpaaGreatW14
import Derived.Test.YtmfpdakaeagdpaaGreatW15
import Derived.Test.YtmfpdakaeagdpaaGreatW16
import Derived.Test.YtmfpdakaeagdpaaGreatW17
import Derived.Test.YtmfpdakaeagdpaaGreatW18
import Derived.Test.YtmfpdakaeagdpaaGreatW19
import Derived.Test.YtmfpdakaeagdpaaGreatW20
import Derived.Test.YtmfpdakaeagdpaaGreatW21
import Derived.Test.YtmfpdakaeagdpaaGreatW22
import Derived.Test.YtmfpdakaeagdpaaGreatW23
import Derived.Test.YtmfpdakaeagdpaaGreatW24
import Derived.Test.YtmfpdakaeagdpaaGreatW25
import Derived.Test.YtmfpdakaeagdpaaGreatW26
import Derived.Test.YtmfpdakaeagdpaaGreatW27
import Derived.Below
import Derived.BigFrame
import Derived.BigQuiet
import Derived.Deep.CutBlock
import Derived.Deep.CutRange
import Derived.Deep.LoopGhost
import Derived.Deep.Matrix
import Derived.Deep.Quiet
import Derived.Deep.RegionHeld3
import Derived.DeepKeys4
import Derived.KernelRfl
import Derived.Laws.BitsAllLaws
import Derived.Laws.EntriesVeiled
import Derived.Lib.Hide
import Derived.Lib.SlKeysI
import Derived.Lib.SliceRun
import Derived.Lib.SmallJoins
import Derived.LoopIn
import Derived.LoopNIn
import Derived.Maps.AppendAt
import Derived.Maps.OwnIn
import Derived.Maps.OwnSet
import Derived.OneCell
import Derived.OrdersHeld
import Derived.OrdersIn
import Derived.OwnWalkIn
import Derived.ProofKit
import Derived.RangeFuncBound
import Derived.RangeFuncBox
import Derived.RangeFuncCalls
import Derived.RangeFuncLeaves
import Derived.RangeFuncNested
import Derived.RangeFuncWrites
import Derived.Shelf.Abstract
import Derived.Shelf.SortM.Plain
import Derived.SizedLaws
import Derived.Still
import Derived.TacticsIn
import Derived.TacticsInMore
import Derived.Test.YtmfpdakaeagdpaaGreatProg
import Derived.WalkKit
import Derived.WalkLawsBesides
import Derived.WalkSpells
import Derived.WideKeyPair
namespace Go.Proofs.YtmfpdakaeagdpaaGreat
set_option maxRecDepth 100000
set_option maxHeartbeats 16000000
section
open Go Go.RowKit
attribute [local go_sem] over_cell
theorem hasB_of_mem {xs:List Int} {k:Nat} {x:Int} (hk:k<xs.length) (h:xs[k]?.getD 0=x):hasB xs x=true:=by
 rw[List.getElem?_eq_getElem hk] at h
 simp at h
 simp[hasB,← h]
end
section
open Go Go.RowKit Go.ChangeShapes Go.WideShapes
theorem O1.cells3:Tryz.prog.cellsOf 3=1:=by kernel_rfl
theorem O1.cells25:Tryz.prog.cellsOf 22=1:=by kernel_rfl
theorem O1.bytes25:Tryz.prog.bytesOf 22=24:=by kernel_rfl
theorem O1.bytes3:Tryz.prog.bytesOf 3=8:=by kernel_rfl
theorem O1.reach:reachBytes=140737488351232:=rfl
theorem O1.weightsAll_mem {H:Type} {P:Program} {e:TypeId}:∀{l:List (DataW H)} {d:DataW H},d∈l→∀n∈d.weights P e,n∈DataW.weightsAll P e l
 | d' :: r,d,hd,n,hn=>by
  simp only[DataW.weightsAll,List.mem_append]
  rcases List.mem_cons.1 hd with rfl|h
  ·exact Or.inl hn
  ·exact Or.inr (O1.weightsAll_mem h n hn)
section
variable {H:Type} {enc:TypeId × Value→H} {w:World} {held:Bool}
theorem O1.ints {fuel:Nat} {c:Value} {y:DataW H × List MemPlace} (h:DataW.trod enc Tryz.prog w 0 (fun _=>true) held fuel 22 [c]=some y) (hz:∀n∈y.1.weights Tryz.prog 22,n≤reachBytes) :
  ∃a n cap g,c = .slice a n cap∧n≤cap∧IC w a n g:=by
 rcases open_ints Tryz.underlying22 Tryz.underlying3 O1.cells3 h with ⟨hcs,_⟩|⟨x,l,cap,zs,hcs,_,hl,hm,hzl,hy,hcell,hwz⟩
 ·simp only[List.cons.injEq,and_true] at hcs
  exact ⟨none,0,0,[],hcs,Nat.le_refl _,⟨rfl,by omega⟩,fun k hk=>absurd hk (Nat.not_lt_zero _)⟩
 ·simp only[List.cons.injEq,and_true] at hcs
  simp only[if_true] at hzl
  rw[hy] at hz
  have h1:=hz _ (by simp only[DataW.weights,Tryz.underlying22];exact List.mem_cons_self)
  simp only[lits,List.length_map,List.length_take,List.length_drop,O1.bytes3,O1.reach] at h1
  refine ⟨some x,l,cap,zs.take l,hcs,hl,⟨by rw[List.length_take];omega,by omega⟩,fun k hk=>?_⟩
  have h2:=hcell k (by omega)
  obtain ⟨b,off,spot⟩:=x
  have hs:spot=none:=by simpa [Addr.add] using World.cell?_spot (hcell 0 (by omega))
  subst hs
  have h3:w.cell? ⟨b,off+k,none⟩=some (.int .i64 (zs.getD k 0)):=by rw[add_plain] at h2;exact h2
  refine ⟨b,off,rfl,World.block_lt_of_cell? _ _ h3,?_⟩
  rw[h3,List.getElem?_take,if_pos hk]
  simp[List.getD]
theorem O1.rows {fuel:Nat} {c:Value} {y:DataW H × List MemPlace} (h:DataW.trod enc Tryz.prog w 0 (fun _=>true) held fuel 40 [c]=some y) (hz:∀n∈y.1.weights Tryz.prog 40,n≤reachBytes) :
  ∃a n cap ls,c = .slice a n cap∧n≤cap∧RC w a n ls:=by
 rcases Go.Deep.open_int_rows Tryz.underlying40 Tryz.underlying22 Tryz.underlying3 O1.cells25 O1.cells3 h with ⟨hcs,_⟩|⟨x,l,cap,A,L,C,Z,hcs,_,hl,hm,hy,hrow⟩
 ·simp only[List.cons.injEq,and_true] at hcs
  exact ⟨none,0,0,[],hcs,Nat.le_refl _,⟨rfl,by omega⟩,fun k hk=>absurd hk (Nat.not_lt_zero _)⟩
 ·simp only[List.cons.injEq,and_true] at hcs
  rw[hy] at hz
  have h1:=hz _ (by simp only[DataW.weights,Tryz.underlying40];exact List.mem_cons_self)
  simp only[List.length_map,List.length_range,O1.bytes25,O1.reach] at h1
  have hin:∀r,r<l→C r≤17592186044416:=by
   intro r hr
   obtain ⟨_,hLC,_,hZ,_,hnil,_⟩:=hrow r (by omega)
   cases hA:A r with
   | none=>rw[hnil hA];omega
   | some a' =>
    have h2:=hz ((((Z r).take (L r)).length+((Z r).drop (L r)).length)*8) (by
     simp only[DataW.weights,Tryz.underlying40]
     refine List.mem_cons_of_mem _ (List.mem_append_left _ (O1.weightsAll_mem (d:=Go.Deep.intRow .i64 (A r) (L r) (Z r)) (List.mem_map.2 ⟨r,List.mem_range.2 hr,rfl⟩) _ ?_))
     simp only[Go.Deep.intRow,hA,DataW.weights,Tryz.underlying22,lits,List.length_map,O1.bytes3]
     exact List.mem_cons_self)
    rw[List.length_take,List.length_drop,O1.reach] at h2
    omega
  obtain ⟨b,off,spot⟩:=x
  refine ⟨some ⟨b,off,spot⟩,l,cap,(List.range l).map (fun r=>(Z r).take (L r)),hcs,hl,⟨by simp,by omega⟩,fun r hr=>?_⟩
  obtain ⟨hc,hLC,_,hZ,_,hnil,hcells⟩:=hrow r (by omega)
  have hs:spot=none:=by simpa [Addr.add] using World.cell?_spot (hrow 0 (by omega)).1
  subst hs
  have h3:w.cell? ⟨b,off+r,none⟩=some (.slice (A r) (L r) (C r)):=by rw[add_plain] at hc;exact hc
  have hCr:=hin r hr
  refine ⟨b,off,A r,L r,C r,rfl,World.block_lt_of_cell? _ _ h3,h3,?_,hLC⟩
  rw[List.getElem?_map,List.getElem?_range hr]
  refine ⟨⟨by simp only[Option.map_some,Option.getD_some];rw[List.length_take];omega,by omega⟩,fun k hk=>?_⟩
  cases hA:A r with
  | none=>have:=hnil hA;omega
  | some a' =>
   have h4:=(hcells a' hA).2 k (by omega)
   obtain ⟨b',off',spot'⟩:=a'
   have hs':spot'=none:=by simpa [Addr.add] using World.cell?_spot ((hcells _ hA).2 0 (by omega))
   subst hs'
   have h5:w.cell? ⟨b',off'+k,none⟩=some (.int .i64 ((Z r).getD k 0)):=by rw[add_plain] at h4;exact h4
   refine ⟨b',off',rfl,World.block_lt_of_cell? _ _ h5,?_⟩
   rw[h5]
   simp only[Option.map_some,Option.getD_some]
   rw[List.getElem?_take,if_pos hk]
   simp[List.getD]
end
end
section
theorem violates_none {sets:List (List Int)} {A:List Nat} (h:Violates sets A) {l:List Int} (hl:Sdr sets l):False:=by
 obtain ⟨N,hN,hA⟩:=h.few
 have h1:(A.map fun t=>l[t]?.getD 0).Nodup:=by
  have hinj:∀(B:List Nat),B.Nodup→(∀t,t∈B→t<sets.length)→(B.map fun t=>l[t]?.getD 0).Nodup:=by
   intro B
   induction B with
   | nil=>intro _ _;exact List.nodup_nil
   | cons t B ih =>
    intro hB hlt
    rw[List.nodup_cons] at hB
    rw[List.map_cons,List.nodup_cons]
    refine ⟨fun hm=>?_,ih hB.2 (fun u hu=>hlt u (List.mem_cons_of_mem _ hu))⟩
    obtain ⟨u,hu,e⟩:=List.mem_map.1 hm
    have ht:=hlt t List.mem_cons_self
    have hu2:=hlt u (List.mem_cons_of_mem _ hu)
    have hl1:=hl.len
    rw[List.getElem?_eq_getElem (by omega),List.getElem?_eq_getElem (by omega),Option.getD_some,Option.getD_some] at e
    have:=(List.getElem_inj (h₀:=by omega) (h₁:=by omega) hl.nodup).1 e
    exact hB.1 (this▸hu)
  exact hinj A h.nodup h.lt
 have h2:=nodupI_le (m:=N) h1 (fun x hx=>by
  obtain ⟨t,ht,e⟩:=List.mem_map.1 hx
  rw[← e]
  exact hA t ht _ (hl.mem t (h.lt t ht)))
 rw[List.length_map] at h2
 omega
theorem feasB_iff {sets:List (List Int)}:feasB sets=true↔∃l,Sdr sets l:=by
 have hH:Held sets 0 (fun _=>none):=⟨fun _ _ h=>(by cases h),fun _ _ _ _ h=>(by cases h),fun t ht=>absurd ht (by omega),fun _ _ h=>(by cases h)⟩
 obtain ⟨ha,hb⟩:=match_ok (F:=sets.flatten.length+1) (by omega) sets.length 0 (fun _=>none) (by omega) hH
 unfold feasB
 cases hm:matchM sets (sets.flatten.length+1) sets.length 0 (fun _=>none) with
 | inl g=>exact ⟨fun _=>ha g hm,fun _=>rfl⟩
 | inr A=>exact ⟨fun h=>(by cases h),fun ⟨l,hl⟩=>(violates_none (hb A hm).1 hl).elim⟩
def repR (sets:List (List Int)):Nat→List Int→Option (List Int)
 | 0,l=>some l
 | f+1,l=>(sets[l.length]?.getD []).findSome? fun x=>if x∈l then none else repR sets f (l++[x])
def Goes (sets:List (List Int)) (out l:List Int):Prop:=Sdr sets l∧l.take out.length=out
theorem take_snoc2 {l:List Int} {k:Nat} (hk:k<l.length):l.take (k+1)=l.take k++[l[k]?.getD 0]:=by
 rw[List.take_add_one,List.getElem?_eq_getElem hk]
 rfl
theorem repR_some {sets:List (List Int)}:∀{f:Nat} {out r:List Int},out.length+f=sets.length→out.Nodup→(∀i,i<out.length→out[i]?.getD 0∈sets[i]?.getD [])→repR sets f out=some r→Goes sets out r:=by
 intro f
 induction f with
 | zero =>
  intro out r hl hn hm h
  cases h
  exact ⟨⟨by omega,hn,fun i hi=>hm i (by omega)⟩,List.take_of_length_le (by omega)⟩
 | succ f ih =>
  intro out r hl hn hm h
  rw[repR] at h
  obtain ⟨x,hx,e⟩:=List.exists_of_findSome?_eq_some h
  by_cases hxo:x∈out
  ·rw[if_pos hxo] at e;cases e
  ·rw[if_neg hxo] at e
   have hg:=ih (out:=out++[x]) (by rw[List.length_append,List.length_singleton];omega) (by rw[List.nodup_append];exact ⟨hn,by simp,fun a ha b hb e3=>by simp at hb;rw[e3,hb] at ha;exact hxo ha⟩) (fun i hi=>by
    rw[List.length_append,List.length_singleton] at hi
    by_cases e2:i=out.length
    ·subst e2;rw[List.getElem?_append_right (by omega),Nat.sub_self];exact hx
    ·rw[List.getElem?_append_left (by omega)];exact hm i (by omega)) e
   refine ⟨hg.1,?_⟩
   have h2:=congrArg (List.take out.length) hg.2
   rw[List.take_take,List.length_append,List.length_singleton,Nat.min_eq_left (by omega),List.take_left' rfl] at h2
   exact h2
theorem repR_none {sets:List (List Int)}:∀{f:Nat} {out l:List Int},out.length+f=sets.length→repR sets f out=none→Goes sets out l→False:=by
 intro f
 induction f with
 | zero=>intro out l _ h;cases h
 | succ f ih =>
  intro out l hl h hg
  rw[repR,List.findSome?_eq_none_iff] at h
  have hll:=hg.1.len
  have hm:=hg.1.mem out.length (by omega)
  have h1:=h _ hm
  have hno:l[out.length]?.getD 0 ∉ out:=fun hin=>by
   have hin2:l[out.length]?.getD 0∈l.take out.length:=by rw[hg.2];exact hin
   obtain ⟨i,hi,e⟩:=List.getElem_of_mem hin2
   have hi2:=hi
   rw[List.length_take] at hi2
   rw[List.getElem_take,List.getElem?_eq_getElem (show out.length<l.length by omega),Option.getD_some] at e
   have:=(List.getElem_inj (h₀:=by omega) (h₁:=by omega) hg.1.nodup).1 e
   omega
  rw[if_neg hno] at h1
  exact ih (by rw[List.length_append,List.length_singleton];omega) h1 ⟨hg.1,by rw[List.length_append,List.length_singleton,take_snoc2 (by omega),hg.2]⟩
def Fast (sets:List (List Int)) (out:List Int) (left:List (List Int)):Prop:=left.length=sets.length∧(∀i,i<out.length→left[i]?.getD []=[out[i]?.getD 0])∧∀i,out.length≤i→left[i]?.getD []=sets[i]?.getD []
theorem fast_goes {sets left:List (List Int)} {out:List Int} (hF:Fast sets out left) (hol:out.length≤sets.length) (hm:∀i,i<out.length→out[i]?.getD 0∈sets[i]?.getD []):(∃l,Sdr left l)↔∃l,Goes sets out l:=by
 constructor
 ·rintro ⟨l,hl⟩
  have h1:=hl.len
  rw[hF.1] at h1
  have he:l.take out.length=out:=by
   apply List.ext_getElem?
   intro i
   by_cases hi:i<out.length
   ·have h2:=hl.mem i (by rw[hF.1];omega)
    rw[hF.2.1 i hi,List.mem_singleton] at h2
    rw[List.getElem?_take_of_lt hi,List.getElem?_eq_getElem (show i<l.length by omega),List.getElem?_eq_getElem hi]
    rw[List.getElem?_eq_getElem (show i<l.length by omega),List.getElem?_eq_getElem hi,Option.getD_some,Option.getD_some] at h2
    rw[h2]
   ·rw[List.getElem?_eq_none (by rw[List.length_take];omega),List.getElem?_eq_none (by omega)]
  refine ⟨l,⟨h1,hl.nodup,fun i hi=>?_⟩,he⟩
  by_cases hi2:i<out.length
  ·have h2:=hl.mem i (by rw[hF.1];omega)
   rw[hF.2.1 i hi2,List.mem_singleton] at h2
   rw[h2]
   exact hm i hi2
  ·have h2:=hl.mem i (by rw[hF.1];omega)
   rw[hF.2.2 i (by omega)] at h2
   exact h2
 ·rintro ⟨l,hl,he⟩
  refine ⟨l,by rw[hl.len,hF.1],hl.nodup,fun i hi=>?_⟩
  rw[hF.1] at hi
  by_cases hi2:i<out.length
  ·rw[hF.2.1 i hi2,List.mem_singleton]
   have h2:=congrArg (fun m=>m[i]?.getD 0) he
   simp only[List.getElem?_take_of_lt hi2] at h2
   exact h2
  ·rw[hF.2.2 i (by omega)]
   exact hl.mem i hi
theorem rep_eq {sets:List (List Int)}:∀{f:Nat} {out:List Int} {left:List (List Int)},out.length+f=sets.length→out.Nodup→(∀i,i<out.length→out[i]?.getD 0∈sets[i]?.getD [])→Fast sets out left→repP sets f out left=repR sets f out:=by
 intro f
 induction f with
 | zero=>intro out left _ _ _ _;rfl
 | succ f ih =>
  intro out left hl hn hm hF
  have hstep:∀x,x∈sets[out.length]?.getD []→x ∉ out→Fast sets (out++[x]) (left.set out.length [x])∧(out++[x]).length+f=sets.length∧(out++[x]).Nodup∧∀i,i<(out++[x]).length→(out++[x])[i]?.getD 0∈sets[i]?.getD []:=fun x hx hxo=>by
   refine ⟨⟨by rw[List.length_set];exact hF.1,fun i hi=>?_,fun i hi=>?_⟩,by rw[List.length_append,List.length_singleton];omega,by rw[List.nodup_append];exact ⟨hn,by simp,fun a ha b hb e3=>by simp at hb;rw[e3,hb] at ha;exact hxo ha⟩,fun i hi=>?_⟩
   ·rw[List.length_append,List.length_singleton] at hi
    have h1:=hF.1
    by_cases e2:i=out.length
    ·subst e2
     rw[List.getElem?_append_right (by omega),Nat.sub_self,List.getElem?_set,if_pos rfl,if_pos (by omega)]
     rfl
    ·rw[List.getElem?_append_left (by omega),List.getElem?_set,if_neg (fun e=>e2 e.symm)]
     exact hF.2.1 i (by omega)
   ·rw[List.length_append,List.length_singleton] at hi
    rw[List.getElem?_set,if_neg (by omega)]
    exact hF.2.2 i (by omega)
   ·rw[List.length_append,List.length_singleton] at hi
    by_cases e2:i=out.length
    ·subst e2;rw[List.getElem?_append_right (by omega),Nat.sub_self];exact hx
    ·rw[List.getElem?_append_left (by omega)];exact hm i (by omega)
  have hfe:∀x,x∈sets[out.length]?.getD []→x ∉ out→(feasB (left.set out.length [x])=true↔∃r,repR sets f (out++[x])=some r):=fun x hx hxo=>by
   obtain ⟨h1,h2,h3,h4⟩:=hstep x hx hxo
   rw[feasB_iff,fast_goes h1 (by omega) h4]
   constructor
   ·rintro ⟨l,hg⟩
    cases hr:repR sets f (out++[x]) with
    | some r=>exact ⟨r,rfl⟩
    | none=>exact (repR_none h2 hr hg).elim
   ·rintro ⟨r,hr⟩
    exact ⟨r,repR_some h2 h3 h4 hr⟩
  rw[repP,repR]
  have hgo:∀xs:List Int,(∀x,x∈xs→x∈sets[out.length]?.getD [])→(match xs.find? (fun x=>decide (x ∉ out)&&feasB (left.set out.length [x])) with
    | none=>none
    | some x=>repP sets f (out++[x]) (left.set out.length [x]))=xs.findSome? fun x=>if x∈out then none else repR sets f (out++[x]):=by
   intro xs
   induction xs with
   | nil=>intro _;rfl
   | cons x xs ihx =>
    intro hx
    have hx1:=hx x List.mem_cons_self
    have ihx:=ihx (fun y hy=>hx y (List.mem_cons_of_mem _ hy))
    rw[List.find?_cons,List.findSome?_cons]
    by_cases hxo:x∈out
    ·rw[if_pos hxo,decide_eq_false (fun h=>h hxo),Bool.false_and]
     exact ihx
    ·rw[if_neg hxo,decide_eq_true hxo,Bool.true_and]
     have h5:=hfe x hx1 hxo
     obtain ⟨h1,h2,h3,h4⟩:=hstep x hx1 hxo
     cases hr:repR sets f (out++[x]) with
     | some r =>
      rw[h5.2 ⟨r,hr⟩]
      show repP sets f (out++[x]) (left.set out.length [x])=some r
      rw[ih h2 h3 h4 h1,hr]
     | none =>
      have:feasB (left.set out.length [x])=false:=by
       rw[Bool.eq_false_iff]
       intro e
       obtain ⟨r,hr2⟩:=h5.1 e
       rw[hr] at hr2
       cases hr2
      rw[this]
      exact ihx
  exact hgo _ (fun _ h=>h)
end
section
open Go Go.RowKit
theorem nodupA_le {α:Type} [DecidableEq α]:∀{l m:List α},l.Nodup→(∀x,x∈l→x∈m)→l.length≤m.length
 | [],_,_,_=>Nat.zero_le _
 | x :: l,m,hn,hs=>by
  rw[List.nodup_cons] at hn
  have hx:=hs x List.mem_cons_self
  have h:=nodupA_le (l:=l) (m:=m.erase x) hn.2 (fun y hy=>(List.mem_erase_of_ne (fun e=>hn.1 (by rw[← e];exact hy))).2 (hs y (List.mem_cons_of_mem _ hy)))
  rw[List.length_erase_of_mem hx] at h
  have:=List.length_pos_of_mem hx
  simp only[List.length_cons]
  omega
end
section
open Go Go.RowKit
theorem goes_nil {sets:List (List Int)} {l:List Int}:Goes sets [] l↔Sdr sets l:=⟨fun h=>h.1,fun h=>⟨h,by simp⟩⟩
theorem rpO_eq (sets:List (List Int)):rpO sets=repR sets sets.length [] :=
 rep_eq (by simp) List.nodup_nil (fun i hi=>absurd hi (by simp)) ⟨rfl,fun i hi=>absurd hi (by simp),fun i _=>rfl⟩
theorem rpO_some {sets:List (List Int)} {l:List Int} (h:rpO sets=some l):Sdr sets l:=by
 rw[rpO_eq] at h
 exact (repR_some (by simp) List.nodup_nil (fun i hi=>absurd hi (by simp)) h).1
theorem rpO_none {sets:List (List Int)} (h:rpO sets=none) (l:List Int):¬Sdr sets l:=fun hl=>by
 rw[rpO_eq] at h
 exact repR_none (by simp) h (goes_nil.2 hl)
theorem haO_ok (sets:List (List Int)):(∀g,haO sets = .inl g→∃l,Sdr sets l)∧(∀A,haO sets = .inr A→Violates sets A∧A≠[]) :=
 match_ok (F:=sets.flatten.length+1) (by omega) sets.length 0 (fun _=>none) (by omega) ⟨fun _ _ h=>(by cases h),fun _ _ _ _ h=>(by cases h),fun t ht=>absurd ht (by omega),fun _ _ h=>(by cases h)⟩
theorem rp_ha (sets:List (List Int)):(∃l g,rpO sets=some l∧haO sets = .inl g∧Sdr sets l)∨(∃A,rpO sets=none∧haO sets = .inr A∧Violates sets A∧A≠[]):=by
 obtain ⟨h1,h2⟩:=haO_ok sets
 cases ho:rpO sets with
 | some l =>
  have hs:=rpO_some ho
  cases hh:haO sets with
  | inl g=>exact .inl ⟨l,g,rfl,rfl,hs⟩
  | inr A=>exact (violates_none (h2 A hh).1 hs).elim
 | none =>
  cases hh:haO sets with
  | inl g =>
   obtain ⟨l,hl⟩:=h1 g hh
   exact (rpO_none ho l hl).elim
  | inr A=>exact .inr ⟨A,rfl,rfl,h2 A hh⟩
theorem vioL_len (A:List Nat):(vioL A).length=A.length:=by unfold vioL;rw[srt4_len,List.length_map]
theorem vioL_mem {A:List Nat} {x:Int} (h:x∈vioL A):∃t,t∈A∧x=(t:Int):=by
 unfold vioL at h
 rw[srt4_mem] at h
 obtain ⟨t,ht,e⟩:=List.mem_map.1 h
 exact ⟨t,ht,e.symm⟩
theorem vioL_asc {A:List Nat} (h:A.Nodup):Asc (vioL A):=by
 unfold vioL
 refine srt4_asc ?_
 rw[List.nodup_iff_pairwise_ne] at h ⊢
 rw[List.pairwise_map]
 exact h.imp fun hab e=>hab (by omega)
theorem mem_uniTo {sets:List (List Int)} {ch:List Int} {i:Nat} {x:Int}:x∈uniTo sets ch i↔∃j,j<i∧x∈sets[(ch[j]?.getD 0).toNat]?.getD []:=by
 unfold uniTo
 rw[List.mem_flatMap]
 constructor
 ·rintro ⟨j,hj,hx⟩;exact ⟨j,List.mem_range.1 hj,hx⟩
 ·rintro ⟨j,hj,hx⟩;exact ⟨j,List.mem_range.2 hj,hx⟩
theorem vio_cho {sets:List (List Int)} {A:List Nat} (V:Violates sets A):choE sets.length (vioL A)=0:=choE_none fun j hj=>by
 have hm:(vioL A)[j]?.getD 0∈vioL A:=by rw[List.getElem?_eq_getElem hj];exact List.getElem_mem _
 obtain ⟨t,ht,e⟩:=vioL_mem hm
 have h3:=V.lt t ht
 unfold choE1
 rw[e,decide_eq_false (show ¬(t:Int)<0 by omega),decide_eq_false (show ¬((sets.length:Nat):Int)≤(t:Int) by omega)]
 have h4:(decide (0<j)&&decide ((t:Int)≤(vioL A)[j - 1]?.getD 0))=false:=by
  rw[Bool.and_eq_false_iff]
  by_cases h0:0<j
  ·right
   have:=vioL_asc V.nodup (j - 1) j (by omega) hj
   rw[e] at this
   exact decide_eq_false (by omega)
  ·left;exact decide_eq_false h0
 rw[h4];rfl
theorem vio_few {sets:List (List Int)} {A:List Nat} (V:Violates sets A):(keysI (uniTo sets (vioL A) (vioL A).length)).length<(vioL A).length:=by
 obtain ⟨N,hN,hA⟩:=V.few
 rw[vioL_len]
 refine Nat.lt_of_le_of_lt (nodupI_le (keysI_nodup _) (fun x hx=>?_)) hN
 rw[mem_keysI,mem_uniTo] at hx
 obtain ⟨j,hj,hx⟩:=hx
 have hm:(vioL A)[j]?.getD 0∈vioL A:=by rw[List.getElem?_eq_getElem (by rw[vioL_len];exact hj)];exact List.getElem_mem _
 obtain ⟨t,ht,e⟩:=vioL_mem hm
 rw[e,Int.toNat_natCast] at hx
 exact hA t ht x hx
theorem vio_chE {sets:List (List Int)} {A:List Nat} (h0:stE sets=0) (V:Violates sets A):chE sets (vioL A)=0:=by
 unfold chE
 rw[if_pos h0,if_pos (vio_cho V),decide_eq_false (by have:=vio_few V;omega)]
 rfl
theorem chE_nil {sets:List (List Int)} (h0:stE sets=0):chE sets []=19:=by
 unfold chE
 rw[if_pos h0,if_pos (show choE sets.length []=0 from rfl)]
 rfl
end
section
open Go Go.RowKit
attribute [local go_sem] over_cell
attribute [local go_sem] Oper.semAt_some
theorem rhas4_c (a:Option Addr) (n c:Nat) (xs:List Int) (x:Int) (w:World) (h:IC w a n xs) :
  Calls Tryz.prog 111 #[.slice a n c,.int .i64 x] w fun e w'=>e = .returned (.bool (hasB xs x))∧w=w':=by
 have hm:=h.small
 go_enter Tryz.func111,Tryz.ntmps111
 go_wp2
 go_loop [5] (fun i=>∃k:Nat,k≤n∧i = .int .i64 k∧Hid (¬x∈xs.take k)) (fun i=>n - (intOf i).toNat)
 case atStart=>exact ⟨0,by omega,rfl,by simp[Hid]⟩
 case round =>
  obtain ⟨k,hk,rfl,hn⟩:=hrel
  by_cases hlt:k<n
  ·obtain ⟨b,off,rfl,hb,hc⟩:=h.2 k hlt
   go_wp2
   ·have he:(xs[k]?.getD 0==x)=true:=by assumption
    go_ret
    exact ⟨ret_bool (hasB_of_mem (by rw[h.len];exact hlt) (by simpa using he)).symm,rfl⟩
   ·have he:(xs[k]?.getD 0==x)=false:=by assumption
    go_round
    case rel =>
     refine ⟨k+1,by omega,by go_num,?_⟩
     unfold Hid
     rw[take_snoc xs 0 k (by rw[h.len];exact hlt)]
     simp only[List.mem_append,List.mem_singleton,not_or]
     exact ⟨hn,fun e=>by rw[← e] at he;simp at he⟩
    case measure=>simp[intOf];omega
  ·go_wp2
   go_ret
   refine ⟨ret_bool ?_,rfl⟩
   have:xs.take k=xs:=List.take_of_length_le (by rw[h.len];omega)
   have hn':¬x∈xs:=by have:=hn.out;simp_all
   simp[hasB,hn']
theorem setE_5 {s:List Int} (h:64<s.length):setE s=5:=by
 unfold setE
 rw[decide_eq_true (show (64:Int)<(s.length:Int) by omega)];rfl
theorem setE_3 {s:List Int} (h:¬64<s.length) {k:Nat} (hk:k<s.length) (hf:farO (s[k]?.getD 0)=true):setE s=3:=by
 unfold setE
 rw[decide_eq_false (show ¬(64:Int)<(s.length:Int) by omega)]
 have:s.any farO=true:=by
  rw[List.any_eq_true]
  rw[List.getElem?_eq_getElem hk,Option.getD_some] at hf
  exact ⟨_,List.getElem_mem _,hf⟩
 rw[this];rfl
theorem far_none {s:List Int} (hf:∀k,k<s.length→farO (s[k]?.getD 0)=false):s.any farO=false:=by
 rw[List.any_eq_false]
 intro x hx
 obtain ⟨k,hk,rfl⟩:=List.getElem_of_mem hx
 have:=hf k hk
 rw[List.getElem?_eq_getElem hk,Option.getD_some] at this
 rw[this];decide
theorem setE_11 {s:List Int} (h:¬64<s.length) (hf:∀k,k<s.length→farO (s[k]?.getD 0)=false) {i:Nat} (hi:i+1<s.length) (hr:s[i+1]?.getD 0≤s[i]?.getD 0):setE s=11:=by
 unfold setE
 rw[decide_eq_false (show ¬(64:Int)<(s.length:Int) by omega),far_none hf]
 have:risB s s.length=false:=by
  unfold risB
  refine allr_miss hi ?_
  rw[decide_eq_false (show ¬i+1=0 by omega),Nat.add_sub_cancel,decide_eq_false (by omega)];rfl
 rw[this];rfl
theorem setE_0 {s:List Int} (h:¬64<s.length) (hf:∀k,k<s.length→farO (s[k]?.getD 0)=false) (hr:∀i,i+1<s.length→s[i]?.getD 0<s[i+1]?.getD 0):setE s=0:=by
 unfold setE
 rw[decide_eq_false (show ¬(64:Int)<(s.length:Int) by omega),far_none hf]
 have:risB s s.length=true:=by
  unfold risB
  refine allr_upto fun i hi=>?_
  cases i with
  | zero=>simp
  | succ i=>rw[Nat.add_sub_cancel,decide_eq_true (hr i hi)];simp
 rw[this];rfl
theorem farO_1 {x:Int} (h:x<0):farO x=true:=by unfold farO;rw[decide_eq_true h];rfl
theorem farO_2 {x:Int} (h:999999999<x):farO x=true:=by unfold farO;rw[decide_eq_true h];simp
theorem farO_3 {x:Int} (h:¬x<0) (h2:¬999999999<x):farO x=false:=by unfold farO;rw[decide_eq_false h,decide_eq_false h2];rfl
theorem rcsets_c (a:Option Addr) (n c:Nat) (sets:List (List Int)) (w:World) (h:RC w a n sets) :
  Calls Tryz.prog 34 #[.slice a n c] w fun e w'=>e = .returned (.int .i64 (stE sets))∧Below w.heap.size w w':=by
 have hlen:=h.1.1
 by_cases h32:32<n
 ·have hd:(32:Int)<(n:Int):=by omega
  have HE:Hid (stE sets=5):=if_pos (by omega)
  clear h hlen
  go_enter Tryz.func34,Tryz.ntmps34
  go_wp2
  go_ret
  exact ⟨ret_int HE.out.symm,Below.refl _ _⟩
 ·have hd:¬(32:Int)<(n:Int):=by omega
  have HHIT:=Lib.hid (fun k=>stE_hit (sets:=sets) (k:=k) (by omega))
  have HNONE:=Lib.hid (stE_none (sets:=sets) (by omega))
  have HLN:=Lib.hid hlen
  have HRC:=Lib.hid h
  generalize stE sets=er at HHIT HNONE ⊢
  clear h hlen
  go_enter Tryz.func34,Tryz.ntmps34
  go_wp2_with fail
  go_loopw [3,4,5] (fun s _ _ wr=>∃k:Nat,k≤n∧s = .int .i64 (k:Int)∧Hid (∀j,j<k→setE (sets[j]?.getD [])=0)∧Hid (Below w.heap.size w wr)) (fun s _ _ _=>n - (intOf s).toNat)
  case atStart=>exact ⟨0,by omega,rfl,fun j hj=>absurd hj (by omega),Below.refl _ _⟩
  case round =>
   obtain ⟨k,hk,rfl,hbf,hbr⟩:=hrel
   by_cases hlt:k<n
   ·obtain ⟨b,off,a',n',c',rfl,hb0,hc0,hi,_⟩:=HRC.out.2 k hlt
    have hc:=(hbr.out.cell (p:=⟨b,off+k,none⟩) hb0).trans hc0
    have hb:=Nat.lt_of_lt_of_le hb0 hbr.out.size
    have hki:(k:Int)<(n:Int):=by omega
    have HH1:=Lib.hid (fun e=>HHIT.out k (by rw[HLN.out];exact hlt) hbf.out e)
    obtain ⟨s,hs⟩:∃s,s=sets[k]?.getD []:=⟨_,rfl⟩
    rw[← hs] at hi HH1
    have HS:=Lib.hid hs
    have hsl:=hi.len
    have hsm:=hi.small
    have HIC:=Lib.hid hi
    have HSL:=Lib.hid hsl
    clear hs hi hsl hc0 hb0
    by_cases h64:64<n'
    ·have hd64:(64:Int)<(n':Int):=by omega
     have HSV:=Lib.hid (setE_5 (s:=s) (by rw[HSL.out];exact h64))
     have hv:=HH1.out (by rw[HSV.out];decide)
     rw[HSV.out] at hv
     clear HH1 HSV
     subst hv
     go_wp2_with fail
     go_ret
     exact ⟨rfl,hbr.out⟩
    ·have hd64:¬(64:Int)<(n':Int):=by omega
     go_wp2_with fail
     go_loopw [4] (fun s4 wr2=>∃i:Nat,i≤n'∧s4 = .int .i64 (i:Int)∧Hid (∀j,j<i→farO (s[j]?.getD 0)=false)∧wr2=wr) (fun s4 _=>n' - (intOf s4).toNat)
     case atStart=>exact ⟨0,by omega,rfl,fun j hj=>absurd hj (by omega),rfl⟩
     case round =>
      obtain ⟨i,hi1,rfl,hfar,hwr⟩:=hrel
      replace hwr:=hwr.symm
      subst hwr
      by_cases hlt2:i<n'
      ·obtain ⟨b1,off1,rfl,hbl1,hc1⟩:=(HIC.out.mono hbr.out).2 i hlt2
       have hii:(i:Int)<(n':Int):=by omega
       have HFX:Hid (∀y,y=s[i]?.getD 0→farO y=true→setE s=3):=fun y e e2=>setE_3 (by rw[HSL.out];exact h64) (by rw[HSL.out];exact hlt2) (by rw[← e];exact e2)
       have HFN:Hid (∀y,y=s[i]?.getD 0→farO y=false→∀j,j<i+1→farO (s[j]?.getD 0)=false):=fun y e e2 j hj=>by
        rcases Nat.lt_or_ge j i with e3|e3
        ·exact hfar.out j e3
        ·rw[show j=i by omega,← e];exact e2
       obtain ⟨y,hy⟩:∃y,y=s[i]?.getD 0:=⟨_,rfl⟩
       have HFX2:=Lib.hid (HFX.out y hy)
       have HFN2:=Lib.hid (HFN.out y hy)
       rw[← hy] at hc1
       clear hy HFX HFN
       by_cases hx0:y<0
       ·have hdx:decide (y<0)=true:=decide_eq_true hx0
        have HSV:=Lib.hid (HFX2.out (farO_1 hx0))
        have hv:=HH1.out (by rw[HSV.out];decide)
        rw[HSV.out] at hv
        clear HH1 HSV
        subst hv
        go_wp2_with fail
        go_ret
        exact ⟨rfl,hbr.out⟩
       ·have hdx:decide (y<0)=false:=decide_eq_false hx0
        by_cases hx1:999999999<y
        ·have hdy:decide (999999999<y)=true:=decide_eq_true hx1
         have HSV:=Lib.hid (HFX2.out (farO_2 hx1))
         have hv:=HH1.out (by rw[HSV.out];decide)
         rw[HSV.out] at hv
         clear HH1 HSV
         subst hv
         go_wp2_with fail
         go_ret
         exact ⟨rfl,hbr.out⟩
        ·have hdy:decide (999999999<y)=false:=decide_eq_false hx1
         go_wp2_with fail
         go_roundw
         case rel=>exact ⟨i+1,by omega,by go_num,HFN2.out (farO_3 hx0 hx1),trivial⟩
         case measure=>simp[intOf];omega
      ·have hii:¬(i:Int)<(n':Int):=by omega
       have HFA:Hid (∀j,j<s.length→farO (s[j]?.getD 0)=false):=fun j hj=>hfar.out j (by rw[HSL.out] at hj;omega)
       clear hfar
       go_wp2_with fail
       go_loopw [5] (fun s5 wr3=>∃i:Nat,(i+1≤n'∨i=0)∧s5 = .int .i64 ((i:Int)+1)∧Hid (∀j,j+1<i+1→s[j]?.getD 0<s[j+1]?.getD 0)∧Hid (Below w.heap.size w wr3)) (fun s5 _=>n'+1 - (intOf s5).toNat)
       case atStart=>exact ⟨0,.inr rfl,rfl,fun j hj=>absurd hj (by omega),hbr⟩
       case round =>
        obtain ⟨i,hi1,rfl,hris,hbr3⟩:=hrel
        by_cases hlt3:i+1<n'
        ·have hic2:=HIC.out.mono hbr3.out
         obtain ⟨b1,off1,rfl,hbl1,hc1⟩:=hic2.2 i (by omega)
         obtain ⟨b2,off2,e2,hbl2,hc2⟩:=hic2.2 (i+1) hlt3
         cases e2
         obtain ⟨b9,off9,a9,n9,c9,e9,hb9,hc9,_⟩:=HRC.out.2 k hlt
         cases e9
         have hc3:=(hbr3.out.cell (p:=⟨b,off+k,none⟩) hb9).trans hc9
         have hcq:=(hbr.out.cell (p:=⟨b,off+k,none⟩) hb9).trans hc9
         rw[hc] at hcq
         cases hcq
         have hb3:=Nat.lt_of_lt_of_le hb9 hbr3.out.size
         have hki2:(i:Int)+1<(n':Int):=by omega
         have HX1:Hid (s[i+1]?.getD 0≤s[i]?.getD 0→setE s=11):=fun e=>setE_11 (by rw[HSL.out];exact h64) HFA.out (by rw[HSL.out];exact hlt3) e
         have HX2:Hid (s[i]?.getD 0<s[i+1]?.getD 0→∀j,j+1<i+1+1→s[j]?.getD 0<s[j+1]?.getD 0):=fun e j hj=>by
          rcases Nat.lt_or_ge j i with e3|e3
          ·exact hris.out j (by omega)
          ·rw[show j=i by omega];exact e
         generalize s[i]?.getD 0=x1 at hc1 HX1 HX2
         generalize s[i+1]?.getD 0=x2 at hc2 HX1 HX2
         clear hic2 hb9 hc9 hc hb
         by_cases hle:x2≤x1
         ·have hdd:decide (x2≤x1)=true:=decide_eq_true hle
          have HSV:=Lib.hid (HX1.out hle)
          have hv:=HH1.out (by rw[HSV.out];decide)
          rw[HSV.out] at hv
          clear HH1 HSV
          subst hv
          go_wp2_with fail
          refine wp_region_S (fun w'=>∃u,w'=over (wr) u) [] [(0,0),(0,1),(0,2),(0,3),(0,4),(0,5),(0,6),(0,7),(0,8),(0,9),(0,10),(0,11),(0,12),(0,13),(0,14),(0,15)] (by kernel_rfl) (by kernel_rfl) (by exact ⟨_,below_over (by repeat (first|assumption|exact Below.refl _ _|refine keep_drew ?_|refine keep_alloc ?_ _|refine keep_trans ?_ (by assumption)))⟩) ?_
          dsimp only[pickOps,nthOp]
          repeat (first|(refine wpS_skip rfl (fun K hK=>?_);go_big_quiet_op;refine hK _ ?_;clear hK K)|(refine wpS_quiet rfl rfl (fun K hK=>?_);go_big_quiet_op;refine hK _ ?_;clear hK K))
          refine wpS_end ?_
          go_wp2_with fail
          go_ret
          exact ⟨rfl,hbr3.out.drew⟩
         ·have hdd:decide (x2≤x1)=false:=decide_eq_false hle
          go_wp2_with fail
          refine wp_region_S (fun w'=>∃u,w'=over (wr) u) [] [(0,0),(0,1),(0,2),(0,3),(0,4),(0,5),(0,6),(0,7),(0,8),(0,9),(0,10),(0,11),(0,12),(0,13),(0,14),(0,15)] (by kernel_rfl) (by kernel_rfl) (by exact ⟨_,below_over (by repeat (first|assumption|exact Below.refl _ _|refine keep_drew ?_|refine keep_alloc ?_ _|refine keep_trans ?_ (by assumption)))⟩) ?_
          dsimp only[pickOps,nthOp]
          repeat (first|(refine wpS_skip rfl (fun K hK=>?_);go_big_quiet_op;refine hK _ ?_;clear hK K)|(refine wpS_quiet rfl rfl (fun K hK=>?_);go_big_quiet_op;refine hK _ ?_;clear hK K))
          refine wpS_end ?_
          go_wp2_with fail
          go_roundw
          case rel=>exact ⟨i+1,.inl (by omega),by go_num,HX2.out (by omega),hbr3.out.drew⟩
          case measure=>simp[intOf];omega
        ·have hki2:¬(i:Int)+1<(n':Int):=by omega
         have HZ:Hid (setE s=0):=setE_0 (by rw[HSL.out];exact h64) HFA.out (fun j hj=>hris.out j (by rw[HSL.out] at hj;omega))
         obtain ⟨b9,off9,a9,n9,c9,e9,hb9,hc9,_⟩:=HRC.out.2 k hlt
         cases e9
         have hc3:=(hbr3.out.cell (p:=⟨b,off+k,none⟩) hb9).trans hc9
         have hcq:=(hbr.out.cell (p:=⟨b,off+k,none⟩) hb9).trans hc9
         rw[hc] at hcq
         cases hcq
         have hb3:=Nat.lt_of_lt_of_le hb9 hbr3.out.size
         clear hb9 hc9 hc hb
         go_wp2_with fail
         go_roundw
         case rel=>exact ⟨k+1,by omega,by go_num,fun j hj=>by
          rcases Nat.lt_or_ge j k with e|e
          ·exact hbf.out j e
          ·rw[show j=k by omega,← HS.out];exact HZ.out,hbr3⟩
         case measure=>simp[intOf];omega
   ·have e:k=n:=by omega
    subst e
    have HE:Hid (er=0):=HNONE.out (fun j hj=>hbf.out j (by rw[← HLN.out];exact hj))
    go_wp2_with fail
    go_ret
    exact ⟨ret_int HE.out.symm,hbr.out⟩
end
end Go.Proofs.YtmfpdakaeagdpaaGreat
