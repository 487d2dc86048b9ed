/- Texts O1 to J13 of this proof, in one file. -/
import Derived.Test.YtmfpdakaeagdpaaGreatW01
import Derived.Test.YtmfpdakaeagdpaaGreatW02
import Derived.Test.YtmfpdakaeagdpaaGreatW03
import Derived.Test.YtmfpdakaeagdpaaGreatW04
import Derived.Test.YtmfpdakaeagdpaaGreatW05
import Derived.Test.YtmfpdakaeagdpaaGreatW06
import Derived.Test.YtmfpdakaeagdpaaGreatW07
import Derived.Test.YtmfpdakaeagdpaaGreatW08
import Derived.Test.YtmfpdakaeagdpaaGreatW09
import Derived.Test.YtmfpdakaeagdpaaGreatW10
import Derived.Test.YtmfpdakaeagdpaaGreatW11
import Derived.Test.YtmfpdakaeagdpaaGreatW12
import Derived.Test.YtmfpdakaeagdpaaGreatW13
import Derived.Test.YtmfpdakaeagdpaaGreatW14
import Derived.Test.YtmfpdakaeagdpaaGreatW15
import Derived.Test.YtmfpdakaeagdpaaGreatW16
import Derived.Test.YtmfpdakaeagdpaaGreatW17
import Derived.Test.YtmfpdakaeagdpaaGreatW18
import Derived.Test.YtmfpdakaeagdpaaGreatW19
import Derived.Test.YtmfpdakaeagdpaaGreatW20
import Derived.Test.YtmfpdakaeagdpaaGreatW21
import Derived.Test.YtmfpdakaeagdpaaGreatW22
import Derived.Test.YtmfpdakaeagdpaaGreatW23
import Derived.Test.YtmfpdakaeagdpaaGreatW24
import Derived.Test.YtmfpdakaeagdpaaGreatW25
import Derived.Test.YtmfpdakaeagdpaaGreatW26
import Derived.Test.YtmfpdakaeagdpaaGreatW27
import Derived.Below
import Derived.BigFrame
import Derived.BigQuiet
import Derived.Deep.CutBlock
import Derived.Deep.CutRange
import Derived.Deep.LoopGhost
import Derived.Deep.Matrix
import Derived.Deep.Quiet
import Derived.Deep.RegionHeld3
import Derived.KernelRfl
import Derived.Laws.BitsAllLaws
import Derived.Lib.Hide
import Derived.Lib.SliceRun
import Derived.Lib.SmallJoins
import Derived.LoopIn
import Derived.LoopNIn
import Derived.Maps.AppendAt
import Derived.Maps.OwnIn
import Derived.OneCell
import Derived.OrdersHeld
import Derived.OwnWalkIn
import Derived.ProofKit
import Derived.RangeFuncBound
import Derived.RangeFuncCalls
import Derived.RangeFuncLeaves
import Derived.RangeFuncNested
import Derived.Shelf.Abstract
import Derived.SizedLaws
import Derived.Still
import Derived.TacticsInMore
import Derived.Test.YtmfpdakaeagdpaaGreatProg
import Derived.WalkKit
import Derived.WalkLawsBesides
import Derived.WalkSpells
namespace Go.Proofs.YtmfpdakaeagdpaaGreat
set_option maxRecDepth 100000
set_option maxHeartbeats 16000000
section
open Go Go.RowKit Go.ChangeShapes Go.WideShapes
theorem O1.cells3:Tryz.prog.cellsOf 3=1:=by kernel_rfl
theorem O1.cells25:Tryz.prog.cellsOf 22=1:=by kernel_rfl
theorem O1.bytes3:Tryz.prog.bytesOf 3=8:=by kernel_rfl
theorem O1.reach:reachBytes=140737488351232:=rfl
section
variable {H:Type} {enc:TypeId × Value→H} {w:World} {held:Bool}
theorem O1.ints {fuel:Nat} {c:Value} {y:DataW H × List MemPlace} (h:DataW.trod enc Tryz.prog w 0 (fun _=>true) held fuel 22 [c]=some y) (hz:∀n∈y.1.weights Tryz.prog 22,n≤reachBytes) :
  ∃a n cap g,c = .slice a n cap∧n≤cap∧IC w a n g:=by
 rcases open_ints Tryz.underlying22 Tryz.underlying3 O1.cells3 h with ⟨hcs,_⟩|⟨x,l,cap,zs,hcs,_,hl,hm,hzl,hy,hcell,hwz⟩
 ·simp only[List.cons.injEq,and_true] at hcs
  exact ⟨none,0,0,[],hcs,Nat.le_refl _,⟨rfl,by omega⟩,fun k hk=>absurd hk (Nat.not_lt_zero _)⟩
 ·simp only[List.cons.injEq,and_true] at hcs
  simp only[if_true] at hzl
  rw[hy] at hz
  have h1:=hz _ (by simp only[DataW.weights,Tryz.underlying22];exact List.mem_cons_self)
  simp only[lits,List.length_map,List.length_take,List.length_drop,O1.bytes3,O1.reach] at h1
  refine ⟨some x,l,cap,zs.take l,hcs,hl,⟨by rw[List.length_take];omega,by omega⟩,fun k hk=>?_⟩
  have h2:=hcell k (by omega)
  obtain ⟨b,off,spot⟩:=x
  have hs:spot=none:=by simpa [Addr.add] using World.cell?_spot (hcell 0 (by omega))
  subst hs
  have h3:w.cell? ⟨b,off+k,none⟩=some (.int .i64 (zs.getD k 0)):=by rw[add_plain] at h2;exact h2
  refine ⟨b,off,rfl,World.block_lt_of_cell? _ _ h3,?_⟩
  rw[h3,List.getElem?_take,if_pos hk]
  simp[List.getD]
end
end
section
open Go Go.RowKit
def badP (p:List Int) (k:Nat):Bool:=decide (p[k]?.getD 0<0)||(decide ((p.length:Int)≤p[k]?.getD 0)||hasB (p.take k) (p[k]?.getD 0))
def permB (p:List Int):Bool:=!(List.range p.length).any (badP p)
def permE (p:List Int):Int:=if 256<p.length then 5 else if permB p=true then 0 else 14
theorem permB_miss {p:List Int} {k:Nat} (hk:k<p.length) (h:badP p k=true):permB p=false:=by
 unfold permB
 rw[Bool.not_eq_false',List.any_eq_true]
 exact ⟨k,by simpa using hk,h⟩
theorem permB_end {p:List Int} (h:∀k,k<p.length→badP p k=false):permB p=true:=by
 unfold permB
 rw[Bool.not_eq_true',List.any_eq_false]
 intro k hk
 rw[h k (by simpa using hk)]
 decide
structure PermP (p:List Int):Prop where
 num:∀k,k<p.length→0≤p[k]?.getD 0∧p[k]?.getD 0<(p.length:Int)
 inj:∀i j,i<p.length→j<p.length→p[i]?.getD 0=p[j]?.getD 0→i=j
theorem perm_of {p:List Int} (h:permB p=true):PermP p:=by
 have hb:∀k,k<p.length→badP p k=false:=fun k hk=>by
  unfold permB at h
  rw[Bool.not_eq_true',List.any_eq_false] at h
  have:=h k (by simpa using hk)
  simpa using this
 have ha:∀i j,i<j→j<p.length→p[i]?.getD 0≠p[j]?.getD 0:=fun i j hij hj e=>by
  have h2:=hb j hj
  unfold badP at h2
  simp only[Bool.or_eq_false_iff] at h2
  have h3:hasB (p.take j) (p[j]?.getD 0)=true:=by
   unfold hasB
   rw[List.contains_iff_mem,← e,List.getElem?_eq_getElem (by omega)]
   exact List.mem_take_iff_getElem.2 ⟨i,by omega,rfl⟩
  rw[h3] at h2
  exact absurd h2.2.2 (by decide)
 refine ⟨fun k hk=>?_,fun i j hi hj e=>?_⟩
 ·have h2:=hb k hk
  unfold badP at h2
  simp only[Bool.or_eq_false_iff,decide_eq_false_iff_not] at h2
  omega
 ·rcases Nat.lt_trichotomy i j with h1|h1|h1
  ·exact absurd e (ha i j h1 hj)
  ·exact h1
  ·exact absurd e.symm (ha j i h1 hi)
theorem perm_ok {p:List Int} (h:permE p=0):p.length≤256∧PermP p:=by
 unfold permE at h
 by_cases h1:256<p.length
 ·rw[if_pos h1] at h;cases h
 ·rw[if_neg h1] at h
  by_cases h2:permB p=true
  ·exact ⟨by omega,perm_of h2⟩
  ·rw[if_neg h2] at h;cases h
theorem PermP.nodup {p:List Int} (h:PermP p):p.Nodup:=by
 unfold List.Nodup
 rw[List.pairwise_iff_getElem]
 intro i j hi hj hij e
 have:=h.inj i j hi hj (by rw[List.getElem?_eq_getElem hi,List.getElem?_eq_getElem hj,e])
 omega
theorem perm_upto {f:Nat→Bool} {k:Nat} (h:∀j,j<k→f j=false) (hk:f k=false):∀j,j<k+1→f j=false:=by
 intro j hj
 by_cases e:j=k
 ·rw[e];exact hk
 ·exact h j (by omega)
end
section
open Go Go.RowKit
attribute [local go_sem] over_cell
attribute [local go_sem] Oper.semAt_some
theorem infoBool1:(Tryz.prog.info? 4).map (fun i=>(i.zero,i.size,i.bytes))=some (some (.bool false),1,1):=by kernel_rfl
def seenL (n:Nat) (p:List Int) (k:Nat):List Value:=(List.range n).map fun (i:Nat)=>Value.bool (hasB (p.take k) (i:Int))
theorem seen_zero (n:Nat) (p:List Int):(madeCells (Value.bool false).cells (n*1)).toList=seenL n p 0:=by
 have e:(madeCells (Value.bool false).cells (n*1)).toList=List.replicate n (.bool false):=by
  apply List.ext_getElem?
  intro i
  by_cases h:i<n
  ·simp[madeCells,h,Value.cells,Nat.mod_one]
  ·simp[madeCells,h]
 rw[e]
 unfold seenL
 apply List.ext_getElem
 ·simp
 ·intro i h1 h2
  simp[hasB]
theorem seen_set {n:Nat} {p:List Int} {k q:Nat} (hk:k<p.length) (hq:p[k]?.getD 0=(q:Int)):(seenL n p k).set q (.bool true)=seenL n p (k+1):=by
 unfold seenL
 apply List.ext_getElem
 ·simp
 ·intro i h1 h2
  rw[List.getElem_set]
  simp only[List.getElem_map,List.getElem_range]
  have e:hasB (p.take (k+1)) (i:Int)=(hasB (p.take k) (i:Int)||(q==i)):=by
   unfold hasB
   rw[take_snoc p 0 k hk,hq,Bool.eq_iff_iff,Bool.or_eq_true,List.contains_iff_mem,List.contains_iff_mem,List.mem_append,List.mem_singleton,beq_iff_eq]
   constructor
   ·rintro (h|h)
    ·exact .inl h
    ·exact .inr (by omega)
   ·rintro (h|h)
    ·exact .inl h
    ·exact .inr (by omega)
  rw[e]
  by_cases hi:q=i
  ·subst hi;simp
  ·simp[hi]
theorem seen_at {n:Nat} {p:List Int} {k q:Nat} {x:Value} (h:(seenL n p k)[q]?=some x):x = .bool (hasB (p.take k) (q:Int)):=by
 unfold seenL at h
 rw[List.getElem?_map] at h
 cases h2:(List.range n)[q]? with
 | none=>rw[h2] at h;cases h
 | some j =>
  rw[h2] at h
  have:j=q:=by
   have h3:=List.getElem?_eq_some_iff.1 h2
   obtain ⟨h4,h5⟩:=h3
   simpa using h5.symm
  subst this
  simpa using h.symm
end
section
open Go Go.RowKit
attribute [local go_sem] over_cell
attribute [local go_sem] Oper.semAt_some
theorem aperm_c (a:Option Addr) (n c:Nat) (p:List Int) (w:World) (h:IC w a n p) :
  Calls Tryz.prog 195 #[.slice a n c] w fun e w'=>e = .returned (.int .i64 (permE p))∧Below w.heap.size w w':=by
 obtain ⟨i0,hi,hz0,hz1,hz2⟩:=info_parts infoBool1
 have hm:=h.small
 have hlen:=h.len
 by_cases hbig:256<n
 ·have HE:Hid (permE p=5):=by unfold Hid permE;rw[if_pos (by omega)]
  have hbi:(256:Int)<(n:Int):=by omega
  clear h hlen
  go_enter Tryz.func195,Tryz.ntmps195
  go_wp2
  go_ret
  exact ⟨ret_int HE.out.symm,Below.refl _ _⟩
 ·have HE1:Hid (∀k,k<n→badP p k=true→permE p=14):=fun k hk e=>by unfold permE;rw[if_neg (by omega),permB_miss (by omega) e];rfl
  have HE0:Hid ((∀k,k<n→badP p k=false)→permE p=0):=fun e=>by unfold permE;rw[if_neg (by omega),permB_end (fun k hk=>e k (by omega))];rfl
  have H:=Lib.hid h
  have HL:=Lib.hid hlen
  have HBD:Hid (∀k,badP p k=(decide (p[k]?.getD 0<0)||(decide ((n:Int)≤p[k]?.getD 0)||hasB (p.take k) (p[k]?.getD 0)))):=fun k=>by unfold badP;rw[hlen]
  have HSS:Hid (∀k q:Nat,k<n→p[k]?.getD 0=(q:Int)→(seenL n p k).set q (.bool true)=seenL n p (k+1)):=fun k q hk e=>seen_set (by omega) e
  clear h hlen
  generalize permE p=er at HE1 HE0 ⊢
  have hnb:¬(256:Int)<(n:Int):=by omega
  go_enter Tryz.func195,Tryz.ntmps195
  go_wp2_with (refine wpList_make_full _ rfl _ _ 148 rfl w.heap.size 4 i0 (.bool false) 1 Tryz.underlying148 hi hz0 hz1 _ _ _ _ n rfl rfl (by simp) (by simp) (by rw[hz2];omega) (by unfold maxLen;omega) (Nat.le_refl _) ?_;intro W4 hown4 hgr4)
  rw[seen_zero n p] at hown4
  have hB4:Below w.heap.size w W4:=(Below.refl w.heap.size w).grown hgr4 (Nat.le_refl _) (fun k e=>by cases e)
  clear hgr4
  go_loopw [5,14] (fun _ iv wr=>∃k:Nat,k≤n∧iv = .int .i64 k∧wr.ownsRow w.heap.size 4 1 (.slice (some ⟨w.heap.size,0,none⟩) n n) n (seenL n p k)∧Hid (∀j,j<k→badP p j=false)∧Below w.heap.size w wr) (fun _ iv _=>n - (intOf iv).toNat)
  case atStart=>exact ⟨0,by omega,rfl,hown4,fun j hj=>absurd hj (by omega),hB4⟩
  case round =>
   clear hown4 hB4
   obtain ⟨k,hk,rfl,hown,hno,hbr⟩:=hrel
   by_cases hlt:k<n
   ·have hki:(k:Int)<(n:Int):=by omega
    obtain ⟨b5,o5,rfl,hb5,hc5⟩:=(H.out.mono hbr).2 k hlt
    have HX:=Lib.hid (HBD.out k)
    have HE1k:=Lib.hid (HE1.out k hlt)
    have HSK:=Lib.hid (fun q=>HSS.out k q hlt)
    have HNK:Hid (badP p k=false→∀j,j<k+1→badP p j=false):=fun e=>perm_upto hno.out e
    generalize badP p k=bd at HX HE1k HNK
    generalize p[k]?.getD 0=x at hc5 HX HSK
    by_cases hx0:x<0
    ·have hd:decide (x<0)=true:=decide_eq_true hx0
     rw[hd,Bool.true_or] at HX
     go_wp2
     go_ret
     exact ⟨ret_int (HE1k.out HX.out).symm,hbr⟩
    ·have hd:decide (x<0)=false:=decide_eq_false hx0
     rw[hd,Bool.false_or] at HX
     by_cases hxn:(n:Int)≤x
     ·have hd2:decide ((n:Int)≤x)=true:=decide_eq_true hxn
      rw[hd2,Bool.true_or] at HX
      go_wp2
      go_ret
      exact ⟨ret_int (HE1k.out HX.out).symm,hbr⟩
     ·have hd2:decide ((n:Int)≤x)=false:=decide_eq_false hxn
      rw[hd2,Bool.false_or] at HX
      obtain ⟨q,rfl⟩:=Int.eq_ofNat_of_zero_le (show 0≤x by omega)
      have hqn:q<n:=by omega
      have hqi:(q:Int)<(n:Int):=by omega
      have hqi0:(0:Int)≤(q:Int):=by omega
      obtain ⟨g9,c9,x9,e9,hx9,hcell9,hfr9,hlt9,hn9⟩:=owns_free (owns_base hown (Nat.zero_le _)) q hqn
      simp only[Value.slice.injEq,Option.some.injEq,Addr.mk.injEq,true_and,and_true] at e9
      obtain ⟨e9,hcap9⟩:=e9
      subst e9
      clear hcap9
      obtain rfl:=seen_at hx9
      generalize hasB (p.take k) (q:Int)=hb at HX hcell9
      cases hb with
      | true =>
       clear hx9 hfr9
       go_wp2
       go_ret
       exact ⟨ret_int (HE1k.out HX.out).symm,hbr⟩
      | false =>
       have HSO:=Lib.hid (owns_set hown q (.bool true))
       rw[HSK.out q rfl] at HSO
       have HSB:Hid (∀u,Below w.heap.size w (wr.setCell ⟨w.heap.size,q,none⟩ u)):=fun u=>hbr.setCell (p:=⟨w.heap.size,q,none⟩) (Nat.le_refl _) u
       clear hx9 hown
       go_wp2
       go_roundw
       case rel=>exact ⟨k+1,by omega,by go_num,HSO.out,HNK.out HX.out,HSB.out _⟩
       case measure=>simp[intOf];omega
   ·have e:k=n:=by omega
    subst e
    have HF:=Lib.hid (HE0.out hno.out)
    go_wp2
    go_ret
    exact ⟨ret_int HF.out.symm,hbr⟩
theorem rperm_c (a:Option Addr) (n c:Nat) (p:List Int) (w:World) (h:IC w a n p) :
  Calls Tryz.prog 152 #[.slice a n c] w fun e w'=>e = .returned (.int .i64 (permE p))∧Below w.heap.size w w':=by
 obtain ⟨i0,hi,hz0,hz1,hz2⟩:=info_parts infoBool1
 have hm:=h.small
 have hlen:=h.len
 by_cases hbig:256<n
 ·have HE:Hid (permE p=5):=by unfold Hid permE;rw[if_pos (by omega)]
  have hbi:(256:Int)<(n:Int):=by omega
  clear h hlen
  go_enter Tryz.func152,Tryz.ntmps152
  go_wp2
  go_ret
  exact ⟨ret_int HE.out.symm,Below.refl _ _⟩
 ·have HE1:Hid (∀k,k<n→badP p k=true→permE p=14):=fun k hk e=>by unfold permE;rw[if_neg (by omega),permB_miss (by omega) e];rfl
  have HE0:Hid ((∀k,k<n→badP p k=false)→permE p=0):=fun e=>by unfold permE;rw[if_neg (by omega),permB_end (fun k hk=>e k (by omega))];rfl
  have H:=Lib.hid h
  have HBD:Hid (∀k,badP p k=(decide (p[k]?.getD 0<0)||(decide ((n:Int)≤p[k]?.getD 0)||hasB (p.take k) (p[k]?.getD 0)))):=fun k=>by unfold badP;rw[hlen]
  have HSS:Hid (∀k q:Nat,k<n→p[k]?.getD 0=(q:Int)→(seenL n p k).set q (.bool true)=seenL n p (k+1)):=fun k q hk e=>seen_set (by omega) e
  clear h hlen
  generalize permE p=er at HE1 HE0 ⊢
  have hnb:¬(256:Int)<(n:Int):=by omega
  go_enter Tryz.func152,Tryz.ntmps152
  go_wp2_with (refine wpList_make_full _ rfl _ _ 148 rfl w.heap.size 4 i0 (.bool false) 1 Tryz.underlying148 hi hz0 hz1 _ _ _ _ n rfl rfl (by simp) (by simp) (by rw[hz2];omega) (by unfold maxLen;omega) (Nat.le_refl _) ?_;intro W4 hown4 hgr4)
  rw[seen_zero n p] at hown4
  have hB4:Below w.heap.size w W4:=(Below.refl w.heap.size w).grown hgr4 (Nat.le_refl _) (fun k e=>by cases e)
  clear hgr4
  go_loopw [4] (fun iv wr=>∃k:Nat,k≤n∧iv = .int .i64 k∧wr.ownsRow w.heap.size 4 1 (.slice (some ⟨w.heap.size,0,none⟩) n n) n (seenL n p k)∧Hid (∀j,j<k→badP p j=false)∧Below w.heap.size w wr) (fun iv _=>n - (intOf iv).toNat)
  case atStart=>exact ⟨0,by omega,rfl,hown4,fun j hj=>absurd hj (by omega),hB4⟩
  case round =>
   clear hown4 hB4
   obtain ⟨k,hk,rfl,hown,hno,hbr⟩:=hrel
   by_cases hlt:k<n
   ·have hki:(k:Int)<(n:Int):=by omega
    obtain ⟨b5,o5,rfl,hb5,hc5⟩:=(H.out.mono hbr).2 k hlt
    have HX:=Lib.hid (HBD.out k)
    have HE1k:=Lib.hid (HE1.out k hlt)
    have HSK:=Lib.hid (fun q=>HSS.out k q hlt)
    have HNK:Hid (badP p k=false→∀j,j<k+1→badP p j=false):=fun e=>perm_upto hno.out e
    generalize badP p k=bd at HX HE1k HNK
    generalize p[k]?.getD 0=x at hc5 HX HSK
    by_cases hx0:x<0
    ·have hd:decide (x<0)=true:=decide_eq_true hx0
     rw[hd,Bool.true_or] at HX
     go_wp2
     go_ret
     exact ⟨ret_int (HE1k.out HX.out).symm,hbr⟩
    ·have hd:decide (x<0)=false:=decide_eq_false hx0
     rw[hd,Bool.false_or] at HX
     by_cases hxn:(n:Int)≤x
     ·have hd2:decide ((n:Int)≤x)=true:=decide_eq_true hxn
      rw[hd2,Bool.true_or] at HX
      go_wp2
      go_ret
      exact ⟨ret_int (HE1k.out HX.out).symm,hbr⟩
     ·have hd2:decide ((n:Int)≤x)=false:=decide_eq_false hxn
      rw[hd2,Bool.false_or] at HX
      obtain ⟨q,rfl⟩:=Int.eq_ofNat_of_zero_le (show 0≤x by omega)
      have hqn:q<n:=by omega
      have hqi:(q:Int)<(n:Int):=by omega
      have hqi0:(0:Int)≤(q:Int):=by omega
      obtain ⟨g9,c9,x9,e9,hx9,hcell9,hfr9,hlt9,hn9⟩:=owns_free (owns_base hown (Nat.zero_le _)) q hqn
      simp only[Value.slice.injEq,Option.some.injEq,Addr.mk.injEq,true_and,and_true] at e9
      obtain ⟨e9,hcap9⟩:=e9
      subst e9
      clear hcap9
      obtain rfl:=seen_at hx9
      generalize hasB (p.take k) (q:Int)=hb at HX hcell9
      cases hb with
      | true =>
       clear hx9 hfr9
       go_wp2
       go_ret
       exact ⟨ret_int (HE1k.out HX.out).symm,hbr⟩
      | false =>
       have HSO:=Lib.hid (owns_set hown q (.bool true))
       rw[HSK.out q rfl] at HSO
       have HSB:Hid (∀u,Below w.heap.size w (wr.setCell ⟨w.heap.size,q,none⟩ u)):=fun u=>hbr.setCell (p:=⟨w.heap.size,q,none⟩) (Nat.le_refl _) u
       clear hx9 hown
       go_wp2
       go_roundw
       case rel=>exact ⟨k+1,by omega,by go_num,HSO.out,HNK.out HX.out,HSB.out _⟩
       case measure=>simp[intOf];omega
   ·have e:k=n:=by omega
    subst e
    have HF:=Lib.hid (HE0.out hno.out)
    go_wp2
    go_ret
    exact ⟨ret_int HF.out.symm,hbr⟩
end
section
open Go Go.RowKit
attribute [local go_sem] over_cell
attribute [local go_sem] Oper.semAt_some
theorem lineB_iff {C k d:Nat} (hk:k≤1000000) (hd:d≤1000000):lineB C k d=((wrap64 ((k:Int) / (C:Int))==wrap64 ((d:Int) / (C:Int)))||((k:Int) % (C:Int)==(d:Int) % (C:Int))):=by
 rw[divw hk,divw hd,modw,modw,Bool.eq_iff_iff]
 unfold lineB
 simp only[Bool.or_eq_true,beq_iff_eq,Int.natCast_inj]
def TwN (C:Nat) (cs:List Int) (k d:Nat):Prop:=(∀i,i<k→∀j,j<i→(lineB C i j&&cs[i]?.getD 0==cs[j]?.getD 0&&decide (0≤cs[i]?.getD 0))=false)∧∀j,j<d→(lineB C k j&&cs[k]?.getD 0==cs[j]?.getD 0&&decide (0≤cs[k]?.getD 0))=false
theorem TwN.next {C:Nat} {cs:List Int} {k d:Nat} (h:TwN C cs k d) (h1:(lineB C k d&&cs[k]?.getD 0==cs[d]?.getD 0&&decide (0≤cs[k]?.getD 0))=false):TwN C cs k (d+1) :=
 ⟨h.1,fun j hj=>by
  rcases Nat.lt_or_ge j d with e|e
  ·exact h.2 j e
  ·rw[show j=d by omega];exact h1⟩
theorem TwN.row {C:Nat} {cs:List Int} {k:Nat} (h:TwN C cs k k):TwN C cs (k+1) 0 :=
 ⟨fun i hi j hj=>by
  rcases Nat.lt_or_ge i k with e|e
  ·exact h.1 i e j hj
  ·rw[show i=k by omega] at hj ⊢;exact h.2 j hj,fun j hj=>absurd hj (by omega)⟩
theorem TwN.none {C:Nat} {cs:List Int} (h:TwN C cs cs.length 0):twiceB C cs=false:=by
 unfold twiceB
 rw[List.any_eq_false]
 intro i hi
 rw[List.mem_range] at hi
 rw[Bool.not_eq_true,List.any_eq_false]
 intro j hj
 rw[List.mem_range] at hj
 rw[h.1 i hi j hj]
 decide
theorem twice_hit {C:Nat} {cs:List Int} {k d:Nat} (hk:k<cs.length) (hd:d<k) (h:(lineB C k d&&cs[k]?.getD 0==cs[d]?.getD 0&&decide (0≤cs[k]?.getD 0))=true):twiceB C cs=true:=by
 unfold twiceB
 rw[List.any_eq_true]
 exact ⟨k,List.mem_range.2 hk,List.any_eq_true.2 ⟨d,List.mem_range.2 hd,h⟩⟩
theorem rtwice_c (r:Int) (C:Nat) (a:Option Addr) (n c:Nat) (cs:List Int) (w:World) (h:IC w a n cs) (hC:1≤C) (hn:n≤65536) :
  Calls Tryz.prog 157 #[.agg #[.int .i64 r,.int .i64 (C:Int),.slice a n c]] w fun e w'=>e = .returned (.bool (twiceB C cs))∧Below w.heap.size w w':=by
 have hm:=h.small
 go_enter Tryz.func157,Tryz.ntmps157
 go_wp2_with fail
 have fB:Below w.heap.size w (w.alloc (.cells #[.int .i64 r,.int .i64 (C:Int),.slice a n c] 24)):=(Below.refl _ _).alloc (Nat.le_refl _) _
 have FQ:Hid ((w.alloc (.cells #[.int .i64 r,.int .i64 (C:Int),.slice a n c] 24)).heap[w.heap.size]?=some (.cells #[.int .i64 r,.int .i64 (C:Int),.slice a n c] 24 (0,0))):=World.alloc_heap_new _ _
 generalize (w.alloc (.cells #[.int .i64 r,.int .i64 (C:Int),.slice a n c] 24))=W0 at fB FQ ⊢
 obtain ⟨x0,x1,x2,xl⟩:=c3_of FQ.out
 have h0:=h.mono fB
 have hCI:(1:Int)≤(C:Int):=by omega
 have hCI2:((C:Int)==0)=false:=by rw[beq_eq_false_iff_ne];omega
 have HL:=Lib.hid h.len
 clear h
 go_loopw [3,4,5] (fun s3 _ _ wr=>∃k:Nat,k≤n∧s3 = .int .i64 k∧Hid (TwN C cs k 0)∧Below W0.heap.size W0 wr) (fun s3 _ _ _=>n - (intOf s3).toNat)
 case atStart=>exact ⟨0,by omega,rfl,⟨fun i hi=>absurd hi (by omega),fun j hj=>absurd hj (by omega)⟩,Below.refl _ _⟩
 case round =>
  obtain ⟨k,hk,rfl,hn1,hbr⟩:=hrel
  clear x0 x1 x2 xl
  obtain ⟨x0,x1,x2,xl⟩:=c3_of (keepq hbr FQ.out)
  by_cases hlt:k<n
  ·have hdI:k≤1000000:=by omega
   obtain ⟨b,off,rfl,hb,hc⟩:=h0.2 k hlt
   have hki:(k:Int)<(n:Int):=by omega
   go_wp2_with fail
   go_loopw [4,5] (fun s4 _ wr=>∃d:Nat,d≤k∧s4 = .int .i64 d∧Hid (TwN C cs k d)∧Below W0.heap.size W0 wr) (fun s4 _ _=>k - (intOf s4).toNat)
   case atStart=>exact ⟨0,by omega,rfl,hn1,hbr⟩
   case round =>
    obtain ⟨d,hd,rfl,hn2,hbr⟩:=hrel
    clear x0 x1 x2 xl
    obtain ⟨x0,x1,x2,xl⟩:=c3_of (keepq hbr FQ.out)
    by_cases hlt2:d<k
    ·have hdI2:d≤1000000:=by omega
     have HLB:=Lib.hid (lineB_iff (C:=C) hdI hdI2)
     obtain ⟨b2,off2,e2,hb2,hc2⟩:=(h0.mono hbr).2 d (by omega)
     cases e2
     replace hc:=((bcell hbr).1 _ _ hb).trans hc
     have hdi:(d:Int)<(n:Int):=by omega
     have HH:=Lib.hid (fun e=>twice_hit (C:=C) (cs:=cs) (k:=k) (d:=d) (by rw[HL.out];exact hlt) hlt2 e)
     have HN:=Lib.hid (fun e=>hn2.out.next e)
     obtain ⟨t1,ht1⟩:∃t,t=(wrap64 ((k:Int) / (C:Int))==wrap64 ((d:Int) / (C:Int))):=⟨_,rfl⟩
     obtain ⟨t2,ht2⟩:∃t,t=((k:Int) % (C:Int)==(d:Int) % (C:Int)):=⟨_,rfl⟩
     rw[← ht1,← ht2] at HLB
     rw[HLB.out] at HH HN
     obtain ⟨t3,ht3⟩:∃t,t=(cs[k]?.getD 0==cs[d]?.getD 0):=⟨_,rfl⟩
     obtain ⟨t4,ht4⟩:∃t,t=decide (0≤cs[k]?.getD 0):=⟨_,rfl⟩
     rw[← ht3,← ht4] at HH HN
     obtain ⟨x,hx⟩:∃x,x=cs[k]?.getD 0:=⟨_,rfl⟩
     obtain ⟨y,hy⟩:∃y,y=cs[d]?.getD 0:=⟨_,rfl⟩
     rw[← hx,← hy] at ht3
     rw[← hx] at ht4 hc
     rw[← hy] at hc2
     clear hx hy HLB hn2
     replace ht1:=ht1.symm
     replace ht2:=ht2.symm
     replace ht3:=ht3.symm
     replace ht4:decide (x≥0)=t4:=ht4.symm
     go_wp2_with fail
     cases t1 with
     | true =>
      refine wp_region_S (fun w'=>∃u,w'=over (wr) u) [20] [(0,0),(0,1),(0,2),(0,3),(0,4),(0,5),(0,6),(0,7),(0,8),(0,9),(0,10),(0,11),(0,12),(0,13),(0,14),(0,15),(0,16),(0,17),(0,18),(0,19),(2,20)] (by kernel_rfl) (by kernel_rfl) (by exact ⟨_,below_over (by repeat (first|assumption|exact Below.refl _ _|refine keep_drew ?_|refine keep_alloc ?_ _|refine keep_trans ?_ (by assumption)))⟩) ?_
      dsimp only[pickOps,nthOp]
      repeat (first|(refine wpS_skip rfl (fun K hK=>?_);go_big_quiet_op;refine hK _ ?_;clear hK K)|(refine wpS_quiet rfl rfl (fun K hK=>?_);go_big_quiet_op;refine hK _ ?_;clear hK K))
      refine wpS_late _ _ _ rfl ?_
      dsimp only[List.map]
      go_wp2_with (fail)
      refine NoPanic.normal ?_
      cases t3 with
      | false =>
       go_wp2_with fail
       refine wp_region_S (fun w'=>∃u,w'=over (wr) u) [] [(0,0),(0,1),(0,2),(0,3),(0,4),(0,5),(0,6),(0,7),(0,8),(0,9),(0,10),(0,11),(0,12),(0,13),(0,14),(0,15),(0,16),(0,17),(0,18),(0,19),(0,20),(0,21)] (by kernel_rfl) (by kernel_rfl) (by exact ⟨_,below_over (by repeat (first|assumption|exact Below.refl _ _|refine keep_drew ?_|refine keep_alloc ?_ _|refine keep_trans ?_ (by assumption)))⟩) ?_
       dsimp only[pickOps,nthOp]
       repeat (first|(refine wpS_skip rfl (fun K hK=>?_);go_big_quiet_op;refine hK _ ?_;clear hK K)|(refine wpS_quiet rfl rfl (fun K hK=>?_);go_big_quiet_op;refine hK _ ?_;clear hK K))
       refine wpS_end ?_
       go_wp2_with fail
       go_roundw
       case rel=>exact ⟨d+1,by omega,by go_num,HN.out rfl,hbr.drew.drew⟩
       case measure=>simp[intOf];omega
      | true =>
       cases t4 with
       | false =>
        go_wp2_with fail
        refine wp_region_S (fun w'=>∃u,w'=over (wr) u) [] [(0,0),(0,1),(0,2),(0,3),(0,4),(0,5),(0,6),(0,7),(0,8),(0,9),(0,10),(0,11),(0,12),(0,13),(0,14),(0,15),(0,16),(0,17),(0,18),(0,19),(0,20),(0,21)] (by kernel_rfl) (by kernel_rfl) (by exact ⟨_,below_over (by repeat (first|assumption|exact Below.refl _ _|refine keep_drew ?_|refine keep_alloc ?_ _|refine keep_trans ?_ (by assumption)))⟩) ?_
        dsimp only[pickOps,nthOp]
        repeat (first|(refine wpS_skip rfl (fun K hK=>?_);go_big_quiet_op;refine hK _ ?_;clear hK K)|(refine wpS_quiet rfl rfl (fun K hK=>?_);go_big_quiet_op;refine hK _ ?_;clear hK K))
        refine wpS_end ?_
        go_wp2_with fail
        go_roundw
        case rel=>exact ⟨d+1,by omega,by go_num,HN.out rfl,hbr.drew.drew⟩
        case measure=>simp[intOf];omega
       | true =>
        go_wp2_with fail
        refine wp_region_S (fun w'=>∃u,w'=over (wr) u) [] [(0,0),(0,1),(0,2),(0,3),(0,4),(0,5),(0,6),(0,7),(0,8),(0,9),(0,10),(0,11),(0,12),(0,13),(0,14),(0,15),(0,16),(0,17),(0,18),(0,19),(0,20),(0,21)] (by kernel_rfl) (by kernel_rfl) (by exact ⟨_,below_over (by repeat (first|assumption|exact Below.refl _ _|refine keep_drew ?_|refine keep_alloc ?_ _|refine keep_trans ?_ (by assumption)))⟩) ?_
        dsimp only[pickOps,nthOp]
        repeat (first|(refine wpS_skip rfl (fun K hK=>?_);go_big_quiet_op;refine hK _ ?_;clear hK K)|(refine wpS_quiet rfl rfl (fun K hK=>?_);go_big_quiet_op;refine hK _ ?_;clear hK K))
        refine wpS_end ?_
        go_wp2_with fail
        go_ret
        exact ⟨ret_bool (HH.out rfl).symm,(fB.trans (hbr.mono fB.size)).drew.drew⟩
     | false =>
      cases t2 with
      | true =>
       refine wp_region_S (fun w'=>∃u,w'=over (wr) u) [20] [(0,0),(0,1),(0,2),(0,3),(0,4),(0,5),(0,6),(0,7),(0,8),(0,9),(0,10),(0,11),(0,12),(0,13),(0,14),(0,15),(0,16),(0,17),(0,18),(0,19),(2,20)] (by kernel_rfl) (by kernel_rfl) (by exact ⟨_,below_over (by repeat (first|assumption|exact Below.refl _ _|refine keep_drew ?_|refine keep_alloc ?_ _|refine keep_trans ?_ (by assumption)))⟩) ?_
       dsimp only[pickOps,nthOp]
       repeat (first|(refine wpS_skip rfl (fun K hK=>?_);go_big_quiet_op;refine hK _ ?_;clear hK K)|(refine wpS_quiet rfl rfl (fun K hK=>?_);go_big_quiet_op;refine hK _ ?_;clear hK K))
       refine wpS_late _ _ _ rfl ?_
       dsimp only[List.map]
       go_wp2_with (fail)
       refine NoPanic.normal ?_
       cases t3 with
       | false =>
        go_wp2_with fail
        refine wp_region_S (fun w'=>∃u,w'=over (wr) u) [] [(0,0),(0,1),(0,2),(0,3),(0,4),(0,5),(0,6),(0,7),(0,8),(0,9),(0,10),(0,11),(0,12),(0,13),(0,14),(0,15),(0,16),(0,17),(0,18),(0,19),(0,20),(0,21)] (by kernel_rfl) (by kernel_rfl) (by exact ⟨_,below_over (by repeat (first|assumption|exact Below.refl _ _|refine keep_drew ?_|refine keep_alloc ?_ _|refine keep_trans ?_ (by assumption)))⟩) ?_
        dsimp only[pickOps,nthOp]
        repeat (first|(refine wpS_skip rfl (fun K hK=>?_);go_big_quiet_op;refine hK _ ?_;clear hK K)|(refine wpS_quiet rfl rfl (fun K hK=>?_);go_big_quiet_op;refine hK _ ?_;clear hK K))
        refine wpS_end ?_
        go_wp2_with fail
        go_roundw
        case rel=>exact ⟨d+1,by omega,by go_num,HN.out rfl,hbr.drew.drew⟩
        case measure=>simp[intOf];omega
       | true =>
        cases t4 with
        | false =>
         go_wp2_with fail
         refine wp_region_S (fun w'=>∃u,w'=over (wr) u) [] [(0,0),(0,1),(0,2),(0,3),(0,4),(0,5),(0,6),(0,7),(0,8),(0,9),(0,10),(0,11),(0,12),(0,13),(0,14),(0,15),(0,16),(0,17),(0,18),(0,19),(0,20),(0,21)] (by kernel_rfl) (by kernel_rfl) (by exact ⟨_,below_over (by repeat (first|assumption|exact Below.refl _ _|refine keep_drew ?_|refine keep_alloc ?_ _|refine keep_trans ?_ (by assumption)))⟩) ?_
         dsimp only[pickOps,nthOp]
         repeat (first|(refine wpS_skip rfl (fun K hK=>?_);go_big_quiet_op;refine hK _ ?_;clear hK K)|(refine wpS_quiet rfl rfl (fun K hK=>?_);go_big_quiet_op;refine hK _ ?_;clear hK K))
         refine wpS_end ?_
         go_wp2_with fail
         go_roundw
         case rel=>exact ⟨d+1,by omega,by go_num,HN.out rfl,hbr.drew.drew⟩
         case measure=>simp[intOf];omega
        | true =>
         go_wp2_with fail
         refine wp_region_S (fun w'=>∃u,w'=over (wr) u) [] [(0,0),(0,1),(0,2),(0,3),(0,4),(0,5),(0,6),(0,7),(0,8),(0,9),(0,10),(0,11),(0,12),(0,13),(0,14),(0,15),(0,16),(0,17),(0,18),(0,19),(0,20),(0,21)] (by kernel_rfl) (by kernel_rfl) (by exact ⟨_,below_over (by repeat (first|assumption|exact Below.refl _ _|refine keep_drew ?_|refine keep_alloc ?_ _|refine keep_trans ?_ (by assumption)))⟩) ?_
         dsimp only[pickOps,nthOp]
         repeat (first|(refine wpS_skip rfl (fun K hK=>?_);go_big_quiet_op;refine hK _ ?_;clear hK K)|(refine wpS_quiet rfl rfl (fun K hK=>?_);go_big_quiet_op;refine hK _ ?_;clear hK K))
         refine wpS_end ?_
         go_wp2_with fail
         go_ret
         exact ⟨ret_bool (HH.out rfl).symm,(fB.trans (hbr.mono fB.size)).drew.drew⟩
      | false =>
       refine wp_region_S (fun w'=>∃u,w'=over (wr) u) [20] [(0,0),(0,1),(0,2),(0,3),(0,4),(0,5),(0,6),(0,7),(0,8),(0,9),(0,10),(0,11),(0,12),(0,13),(0,14),(0,15),(0,16),(0,17),(0,18),(0,19),(2,20)] (by kernel_rfl) (by kernel_rfl) (by exact ⟨_,below_over (by repeat (first|assumption|exact Below.refl _ _|refine keep_drew ?_|refine keep_alloc ?_ _|refine keep_trans ?_ (by assumption)))⟩) ?_
       dsimp only[pickOps,nthOp]
       repeat (first|(refine wpS_skip rfl (fun K hK=>?_);go_big_quiet_op;refine hK _ ?_;clear hK K)|(refine wpS_quiet rfl rfl (fun K hK=>?_);go_big_quiet_op;refine hK _ ?_;clear hK K))
       refine wpS_late _ _ _ rfl ?_
       dsimp only[List.map]
       go_wp2_with (fail)
       refine NoPanic.normal ?_
       go_wp2_with fail
       refine wp_region_S (fun w'=>∃u,w'=over (wr) u) [] [(0,0),(0,1),(0,2),(0,3),(0,4),(0,5),(0,6),(0,7),(0,8),(0,9),(0,10),(0,11),(0,12),(0,13),(0,14),(0,15),(0,16),(0,17),(0,18),(0,19),(0,20),(0,21)] (by kernel_rfl) (by kernel_rfl) (by exact ⟨_,below_over (by repeat (first|assumption|exact Below.refl _ _|refine keep_drew ?_|refine keep_alloc ?_ _|refine keep_trans ?_ (by assumption)))⟩) ?_
       dsimp only[pickOps,nthOp]
       repeat (first|(refine wpS_skip rfl (fun K hK=>?_);go_big_quiet_op;refine hK _ ?_;clear hK K)|(refine wpS_quiet rfl rfl (fun K hK=>?_);go_big_quiet_op;refine hK _ ?_;clear hK K))
       refine wpS_end ?_
       go_wp2_with fail
       go_roundw
       case rel=>exact ⟨d+1,by omega,by go_num,HN.out rfl,hbr.drew.drew⟩
       case measure=>simp[intOf];omega
    ·have e:d=k:=by omega
     subst e
     go_wp2_with fail
     go_roundw
     case rel=>exact ⟨d+1,by omega,by go_num,hn2.out.row,hbr⟩
     case measure=>simp[intOf];omega
  ·have e:k=n:=by omega
   subst e
   go_wp2_with fail
   go_ret
   exact ⟨ret_bool (by rw[(show Hid (TwN C cs cs.length 0) from by rw[HL.out];exact hn1).out.none]),fB.trans (hbr.mono fB.size)⟩
end
section
open Go Go.RowKit
attribute [local go_sem] over_cell
attribute [local go_sem] Oper.semAt_some
theorem any_upto {p:Int→Bool} {cs:List Int} (h:∀j,j<cs.length→p (cs[j]?.getD 0)=false):cs.any p=false:=by
 rw[List.any_eq_false]
 intro x hx
 obtain ⟨k,hk,e⟩:=List.getElem_of_mem hx
 have:=h k hk
 rw[List.getElem?_eq_getElem hk,Option.getD_some,e] at this
 rw[this];decide
theorem any_hit {p:Int→Bool} {cs:List Int} {j:Nat} (hj:j<cs.length) (h:p (cs[j]?.getD 0)=true):cs.any p=true:=by
 rw[List.getElem?_eq_getElem hj,Option.getD_some] at h
 exact List.any_eq_true.2 ⟨_,List.getElem_mem hj,h⟩
theorem rlsym_c (r:Int) (C:Nat) (a:Option Addr) (n c:Nat) (cs:List Int) (low:Int) (w:World) (h:IC w a n cs) (hC:1≤C) (hn:n≤65536) :
  Calls Tryz.prog 100 #[.agg #[.int .i64 r,.int .i64 (C:Int),.slice a n c],.int .i64 low] w fun e w'=>e = .returned (.int .i64 (symE low C cs))∧Below w.heap.size w w':=by
 have hm:=h.small
 go_enter Tryz.func100,Tryz.ntmps100
 go_wp2_with fail
 have fB:Below w.heap.size w (w.alloc (.cells #[.int .i64 r,.int .i64 (C:Int),.slice a n c] 24)):=(Below.refl _ _).alloc (Nat.le_refl _) _
 have FQ:Hid ((w.alloc (.cells #[.int .i64 r,.int .i64 (C:Int),.slice a n c] 24)).heap[w.heap.size]?=some (.cells #[.int .i64 r,.int .i64 (C:Int),.slice a n c] 24 (0,0))):=World.alloc_heap_new _ _
 generalize (w.alloc (.cells #[.int .i64 r,.int .i64 (C:Int),.slice a n c] 24))=W0 at fB FQ ⊢
 obtain ⟨x0,x1,x2,xl⟩:=c3_of FQ.out
 have h0:=h.mono fB
 have HL:=Lib.hid h.len
 have HT:=Lib.hid (fun W (hb:Below W0.heap.size W0 W)=>rtwice_c r C a n c cs W (h0.mono hb) hC hn)
 clear h
 go_loopw [5] (fun s5 wr=>∃k:Nat,k≤n∧s5 = .int .i64 k∧Hid (∀j,j<k→(decide (cs[j]?.getD 0<low)||decide ((C:Int)≤cs[j]?.getD 0))=false)∧Below W0.heap.size W0 wr) (fun s5 _=>n - (intOf s5).toNat)
 case atStart=>exact ⟨0,by omega,rfl,fun j hj=>absurd hj (by omega),Below.refl _ _⟩
 case round =>
  obtain ⟨k,hk,rfl,hn1,hbr⟩:=hrel
  clear x0 x1 x2 xl
  obtain ⟨x0,x1,x2,xl⟩:=c3_of (keepq hbr FQ.out)
  by_cases hlt:k<n
  ·obtain ⟨b,off,rfl,hb,hc⟩:=(h0.mono hbr).2 k hlt
   have hki:(k:Int)<(n:Int):=by omega
   have HN:=Lib.hid (fun e=>upB_snoc (f:=fun j=>decide (cs[j]?.getD 0<low)||decide ((C:Int)≤cs[j]?.getD 0)) hn1.out e)
   have HE:=Lib.hid (fun e=>any_hit (p:=fun x=>decide (x<low)||decide ((C:Int)≤x)) (cs:=cs) (j:=k) (by rw[HL.out];exact hlt) e)
   obtain ⟨x,hx⟩:∃x,x=cs[k]?.getD 0:=⟨_,rfl⟩
   rw[← hx] at hc HN HE
   clear hx
   obtain ⟨t1,ht1⟩:∃t,t=decide (x<low):=⟨_,rfl⟩
   obtain ⟨t2,ht2⟩:∃t,t=decide ((C:Int)≤x):=⟨_,rfl⟩
   rw[← ht1,← ht2] at HN HE
   replace ht1:=ht1.symm
   replace ht2:decide (x≥(C:Int))=t2:=ht2.symm
   go_wp2_with fail
   cases t1 with
   | true =>
    refine wp_region_S (fun w'=>∃u,w'=over (wr) u) [] [(0,0),(0,1),(0,2),(0,3),(0,4),(0,5),(0,6),(0,7),(0,8),(0,9),(0,10),(0,11),(0,12),(0,13),(0,14),(0,15),(0,16)] (by kernel_rfl) (by kernel_rfl) (by exact ⟨_,below_over (by repeat (first|assumption|exact Below.refl _ _|refine keep_drew ?_|refine keep_alloc ?_ _|refine keep_trans ?_ (by assumption)))⟩) ?_
    dsimp only[pickOps,nthOp]
    repeat (first|(refine wpS_skip rfl (fun K hK=>?_);go_big_quiet_op;refine hK _ ?_;clear hK K)|(refine wpS_quiet rfl rfl (fun K hK=>?_);go_big_quiet_op;refine hK _ ?_;clear hK K))
    refine wpS_end ?_
    go_wp2_with fail
    go_ret
    exact ⟨ret_int (by unfold symE;rw[if_pos (HE.out rfl)]),(fB.trans (hbr.mono fB.size)).drew⟩
   | false =>
    cases t2 with
    | true =>
     refine wp_region_S (fun w'=>∃u,w'=over (wr) u) [] [(0,0),(0,1),(0,2),(0,3),(0,4),(0,5),(0,6),(0,7),(0,8),(0,9),(0,10),(0,11),(0,12),(0,13),(0,14),(0,15),(0,16)] (by kernel_rfl) (by kernel_rfl) (by exact ⟨_,below_over (by repeat (first|assumption|exact Below.refl _ _|refine keep_drew ?_|refine keep_alloc ?_ _|refine keep_trans ?_ (by assumption)))⟩) ?_
     dsimp only[pickOps,nthOp]
     repeat (first|(refine wpS_skip rfl (fun K hK=>?_);go_big_quiet_op;refine hK _ ?_;clear hK K)|(refine wpS_quiet rfl rfl (fun K hK=>?_);go_big_quiet_op;refine hK _ ?_;clear hK K))
     refine wpS_end ?_
     go_wp2_with fail
     go_ret
     exact ⟨ret_int (by unfold symE;rw[if_pos (HE.out rfl)]),(fB.trans (hbr.mono fB.size)).drew⟩
    | false =>
     refine wp_region_S (fun w'=>∃u,w'=over (wr) u) [] [(0,0),(0,1),(0,2),(0,3),(0,4),(0,5),(0,6),(0,7),(0,8),(0,9),(0,10),(0,11),(0,12),(0,13),(0,14),(0,15),(0,16)] (by kernel_rfl) (by kernel_rfl) (by exact ⟨_,below_over (by repeat (first|assumption|exact Below.refl _ _|refine keep_drew ?_|refine keep_alloc ?_ _|refine keep_trans ?_ (by assumption)))⟩) ?_
     dsimp only[pickOps,nthOp]
     repeat (first|(refine wpS_skip rfl (fun K hK=>?_);go_big_quiet_op;refine hK _ ?_;clear hK K)|(refine wpS_quiet rfl rfl (fun K hK=>?_);go_big_quiet_op;refine hK _ ?_;clear hK K))
     refine wpS_end ?_
     go_wp2_with fail
     go_roundw
     case rel=>exact ⟨k+1,by omega,by go_num,HN.out rfl,hbr.drew⟩
     case measure=>simp[intOf];omega
  ·have e:k=n:=by omega
   subst e
   have HA:Hid ((cs.any fun x=>decide (x<low)||decide ((C:Int)≤x))=false):=any_upto (by rw[HL.out];exact hn1.out)
   have HE:Hid (symE low C cs=if twiceB C cs=true then 17 else 0):=by
    unfold Hid symE
    rw[if_neg (by rw[HA.out];decide)]
   generalize twiceB C cs=t at HT HE
   cases t with
   | true =>
    go_wp2_with (first|(go_at_call 157;refine (HT.out _ hbr).mono ?_;rintro _ w1 ⟨rfl,hb1⟩))
    go_ret
    exact ⟨ret_int HE.out.symm,keep_trans (fB.trans (hbr.mono fB.size)) hb1⟩
   | false =>
    go_wp2_with (first|(go_at_call 157;refine (HT.out _ hbr).mono ?_;rintro _ w1 ⟨rfl,hb1⟩))
    go_ret
    exact ⟨ret_int HE.out.symm,keep_trans (fB.trans (hbr.mono fB.size)) hb1⟩
theorem sq_wrap {N:Nat} (h:N≤16):wrap64 ((N:Int)*(N:Int))=((N*N:Nat):Int):=by
 rw[← Int.natCast_mul]
 have h1:N*N≤16*16:=Nat.mul_le_mul h h
 generalize N*N=q at h1 ⊢
 unfold wrap64
 omega
theorem rissq_c (r C:Int) (a:Option Addr) (n c:Nat) (cs:List Int) (w:World) (h:IC w a n cs) :
  Calls Tryz.prog 99 #[.agg #[.int .i64 r,.int .i64 C,.slice a n c]] w fun e w'=>e = .returned (.bool (sqB r C cs))∧Below w.heap.size w w':=by
 have hm:=h.small
 have hlen:=h.len
 clear h
 by_cases hrc:r=C
 ·subst hrc
  have hq:(r==r)=true:=by simp
  by_cases h1:1≤r
  ·have hd1:decide (r≥1)=true:=decide_eq_true h1
   by_cases h2:r≤16
   ·have hd2:decide (r≤16)=true:=decide_eq_true h2
    obtain ⟨N,rfl⟩:=Int.eq_ofNat_of_zero_le (show 0≤r by omega)
    have HE:Hid (sqB (N:Int) (N:Int) cs=((n:Int)==wrap64 ((N:Int)*(N:Int)))):=by
     unfold Hid sqB
     rw[sq_wrap (by omega),hlen,← Int.natCast_mul,hd2,show decide ((1:Int)≤(N:Int))=true from decide_eq_true h1,decide_eq_true rfl,Bool.true_and,Bool.true_and,Bool.true_and,Bool.eq_iff_iff,decide_eq_true_eq,beq_iff_eq]
    clear hlen
    go_enter Tryz.func99,Tryz.ntmps99
    go_wp2_with fail
    have fB:Below w.heap.size w (w.alloc (.cells #[.int .i64 (N:Int),.int .i64 (N:Int),.slice a n c] 24)):=(Below.refl _ _).alloc (Nat.le_refl _) _
    have FQ:Hid ((w.alloc (.cells #[.int .i64 (N:Int),.int .i64 (N:Int),.slice a n c] 24)).heap[w.heap.size]?=some (.cells #[.int .i64 (N:Int),.int .i64 (N:Int),.slice a n c] 24 (0,0))):=World.alloc_heap_new _ _
    generalize (w.alloc (.cells #[.int .i64 (N:Int),.int .i64 (N:Int),.slice a n c] 24))=W0 at fB FQ ⊢
    obtain ⟨x0,x1,x2,xl⟩:=c3_of FQ.out
    go_wp2_with fail
    go_ret
    exact ⟨ret_bool HE.out.symm,fB⟩
   ·have hd2:decide (r≤16)=false:=decide_eq_false h2
    have HE:Hid (sqB r r cs=false):=by
     unfold Hid sqB
     rw[hd2];simp
    clear hlen
    go_enter Tryz.func99,Tryz.ntmps99
    go_wp2_with fail
    have fB:Below w.heap.size w (w.alloc (.cells #[.int .i64 r,.int .i64 r,.slice a n c] 24)):=(Below.refl _ _).alloc (Nat.le_refl _) _
    have FQ:Hid ((w.alloc (.cells #[.int .i64 r,.int .i64 r,.slice a n c] 24)).heap[w.heap.size]?=some (.cells #[.int .i64 r,.int .i64 r,.slice a n c] 24 (0,0))):=World.alloc_heap_new _ _
    generalize (w.alloc (.cells #[.int .i64 r,.int .i64 r,.slice a n c] 24))=W0 at fB FQ ⊢
    obtain ⟨x0,x1,x2,xl⟩:=c3_of FQ.out
    go_wp2_with fail
    go_ret
    exact ⟨ret_bool HE.out.symm,fB⟩
  ·have hd1:decide (r≥1)=false:=decide_eq_false h1
   have HE:Hid (sqB r r cs=false):=by
    unfold Hid sqB
    rw[show decide (1≤r)=false from hd1];simp
   clear hlen
   go_enter Tryz.func99,Tryz.ntmps99
   go_wp2_with fail
   have fB:Below w.heap.size w (w.alloc (.cells #[.int .i64 r,.int .i64 r,.slice a n c] 24)):=(Below.refl _ _).alloc (Nat.le_refl _) _
   have FQ:Hid ((w.alloc (.cells #[.int .i64 r,.int .i64 r,.slice a n c] 24)).heap[w.heap.size]?=some (.cells #[.int .i64 r,.int .i64 r,.slice a n c] 24 (0,0))):=World.alloc_heap_new _ _
   generalize (w.alloc (.cells #[.int .i64 r,.int .i64 r,.slice a n c] 24))=W0 at fB FQ ⊢
   obtain ⟨x0,x1,x2,xl⟩:=c3_of FQ.out
   go_wp2_with fail
   go_ret
   exact ⟨ret_bool HE.out.symm,fB⟩
 ·have hq:(r==C)=false:=by simpa using hrc
  have HE:Hid (sqB r C cs=false):=by
   unfold Hid sqB
   rw[decide_eq_false hrc];simp
  clear hlen
  go_enter Tryz.func99,Tryz.ntmps99
  go_wp2_with fail
  have fB:Below w.heap.size w (w.alloc (.cells #[.int .i64 r,.int .i64 C,.slice a n c] 24)):=(Below.refl _ _).alloc (Nat.le_refl _) _
  have FQ:Hid ((w.alloc (.cells #[.int .i64 r,.int .i64 C,.slice a n c] 24)).heap[w.heap.size]?=some (.cells #[.int .i64 r,.int .i64 C,.slice a n c] 24 (0,0))):=World.alloc_heap_new _ _
  generalize (w.alloc (.cells #[.int .i64 r,.int .i64 C,.slice a n c] 24))=W0 at fB FQ ⊢
  obtain ⟨x0,x1,x2,xl⟩:=c3_of FQ.out
  go_wp2_with fail
  go_ret
  exact ⟨ret_bool HE.out.symm,fB⟩
theorem sqB_dims {r C:Int} {cs:List Int} (h:sqB r C cs=true):∃N:Nat,r=(N:Int)∧C=(N:Int)∧1≤N∧N≤16∧cs.length=N*N:=by
 unfold sqB at h
 simp only[Bool.and_eq_true,decide_eq_true_eq] at h
 obtain ⟨⟨⟨h1,h2⟩,h3⟩,h4⟩:=h
 refine ⟨r.toNat,by omega,by omega,by omega,by omega,?_⟩
 subst h1
 obtain ⟨N,rfl⟩:=Int.eq_ofNat_of_zero_le (show 0≤r by omega)
 rw[← Int.natCast_mul] at h4
 rw[show ((N:Int)).toNat=N from rfl]
 exact Int.ofNat.inj h4
theorem rcheck_c (r C:Int) (a:Option Addr) (n c:Nat) (cs:List Int) (w:World) (h:IC w a n cs) :
  Calls Tryz.prog 22 #[.agg #[.int .i64 r,.int .i64 C,.slice a n c]] w fun e w'=>e = .returned (.int .i64 (sqE 0 r C cs))∧Below w.heap.size w w':=by
 have HI:=Lib.hid (fun W (hb:Below w.heap.size w W)=>rissq_c r C a n c cs W (h.mono hb))
 cases hq:sqB r C cs with
 | false =>
  have HE:Hid (sqE 0 r C cs=2):=by unfold Hid sqE;rw[hq];rfl
  rw[hq] at HI
  clear hq h
  go_enter Tryz.func22,Tryz.ntmps22
  go_wp2_with fail
  have fB:Below w.heap.size w (w.alloc (.cells #[.int .i64 r,.int .i64 C,.slice a n c] 24)):=(Below.refl _ _).alloc (Nat.le_refl _) _
  have FQ:Hid ((w.alloc (.cells #[.int .i64 r,.int .i64 C,.slice a n c] 24)).heap[w.heap.size]?=some (.cells #[.int .i64 r,.int .i64 C,.slice a n c] 24 (0,0))):=World.alloc_heap_new _ _
  generalize (w.alloc (.cells #[.int .i64 r,.int .i64 C,.slice a n c] 24))=W0 at fB FQ ⊢
  obtain ⟨x0,x1,x2,xl⟩:=c3_of FQ.out
  go_wp2_with (first|(go_at_call 99;refine (HI.out _ fB).mono ?_;rintro _ w1 ⟨rfl,hb1⟩))
  go_ret
  exact ⟨ret_int HE.out.symm,keep_trans fB hb1⟩
 | true =>
  obtain ⟨N,rfl,rfl,hN1,hN2,hl⟩:=sqB_dims hq
  have HE:Hid (sqE 0 (N:Int) (N:Int) cs=symE 0 N cs):=by unfold Hid sqE;rw[hq];rfl
  have hn2:n≤65536:=by
   rw[← h.len,hl]
   exact Nat.le_trans (Nat.mul_le_mul hN2 hN2) (by decide)
  have HS:=Lib.hid (fun W (hb:Below w.heap.size w W)=>rlsym_c (N:Int) N a n c cs (0) W (h.mono hb) hN1 hn2)
  rw[hq] at HI
  clear hq h hl
  go_enter Tryz.func22,Tryz.ntmps22
  go_wp2_with fail
  have fB:Below w.heap.size w (w.alloc (.cells #[.int .i64 (N:Int),.int .i64 (N:Int),.slice a n c] 24)):=(Below.refl _ _).alloc (Nat.le_refl _) _
  have FQ:Hid ((w.alloc (.cells #[.int .i64 (N:Int),.int .i64 (N:Int),.slice a n c] 24)).heap[w.heap.size]?=some (.cells #[.int .i64 (N:Int),.int .i64 (N:Int),.slice a n c] 24 (0,0))):=World.alloc_heap_new _ _
  generalize (w.alloc (.cells #[.int .i64 (N:Int),.int .i64 (N:Int),.slice a n c] 24))=W0 at fB FQ ⊢
  obtain ⟨x0,x1,x2,xl⟩:=c3_of FQ.out
  go_wp2_with (first|(go_at_call 99;refine (HI.out _ fB).mono ?_;rintro _ w1 ⟨rfl,hb1⟩;clear x0 x1 x2 xl;obtain ⟨x0,x1,x2,xl⟩:=c3_of (keepq hb1 FQ.out))|(go_at_call 100;refine (HS.out _ (keep_trans fB hb1)).mono ?_;rintro _ w2 ⟨rfl,hb2⟩))
  go_ret
  exact ⟨ret_int HE.out.symm,keep_trans (keep_trans fB hb1) hb2⟩
end
section
theorem Latin.row {n:Nat} {cs:List Int} (L:Latin n cs) {i:Nat} (hi:i<n) {x:Int} (h0:0≤x) (h1:x<(n:Int)):∃j,j<n∧cs[i*n+j]?.getD 0=x:=by
 have ho:=once_iff.1 L.once
 have hm:=full_mem (n:=n) (l:=(List.range n).map fun j=>cs[i*n+j]?.getD 0) (by
  rw[List.nodup_iff_pairwise_ne,List.pairwise_map]
  refine (List.pairwise_lt_range (n:=n)).imp_of_mem (fun {a b} ha hb hab e=>?_)
  rw[List.mem_range] at ha hb
  have h2:=ho (i*n+a) (i*n+b) (by rw[L.len];exact gcell_lt hi ha) (by rw[L.len];exact gcell_lt hi hb) (by omega) (by unfold lineB;rw[(gcell_div ha).1,(gcell_div hb).1];simp) e
  have h3:=L.get (gcell_lt hi ha)
  omega) (by rw[List.length_map,List.length_range]) (fun y hy=>by
  obtain ⟨j,hj,e⟩:=List.mem_map.1 hy
  rw[← e]
  exact L.get (gcell_lt hi (List.mem_range.1 hj))) h0 h1
 obtain ⟨j,hj,e⟩:=List.mem_map.1 hm
 exact ⟨j,List.mem_range.1 hj,e⟩
end
section
theorem sameL_get {n i:Nat} (hi:i<n):(sameL n)[i]?.getD 0=(i:Int)∧nat (sameL n) i=i:=by
 have:(sameL n)[i]?.getD 0=(i:Int):=by unfold sameL;rw[List.getElem?_map,List.getElem?_range hi];rfl
 unfold nat
 rw[this]
 exact ⟨rfl,rfl⟩
theorem redu_frame {x:Int} {n:Nat} {cs:List Int} (L:Latin n cs):(∀j,j<n→(reduL x n cs)[j]?.getD 0=(j:Int))∧∀i,i<n→(reduL x n cs)[i*n]?.getD 0=(i:Int):=by
 have hpos:=L.pos
 have h1:=iso_latin (x:=x) L sameL_perm L.rowZ sameL_perm
 have hz:∀{c:Nat},c<n*n→nat (isoL x n (sameL n) (Go.Proofs.YtmfpdakaeagdpaaGreat.rowZ n cs) (sameL n) cs) c<n:=fun hc=>(h1.nat hc).2
 have hle:n≤n*n:=Nat.le_mul_of_pos_left n hpos
 -- the first row after the columns moved
 have hrow:∀j,j<n→(isoL x n (sameL n) (Go.Proofs.YtmfpdakaeagdpaaGreat.rowZ n cs) (sameL n) cs)[j]?.getD 0=(j:Int):=fun j hj=>by
  obtain ⟨k,hk,e⟩:=L.rowZ.onto hj
  have h2:=iso_get (x:=x) (names:=sameL n) (cs:=cs) sameL_perm L.rowZ hpos hk
  rw[(sameL_get hpos).2,e,Nat.zero_mul,Nat.zero_add,Nat.zero_add] at h2
  rw[h2]
  have h3:nat cs k=j:=by
   rw[← e]
   unfold nat Go.Proofs.YtmfpdakaeagdpaaGreat.rowZ
   rw[List.getElem?_take_of_lt hk]
  rw[h3]
  exact (sameL_get hj).1
 have hcz:∀i,i<n→nat (Go.Proofs.YtmfpdakaeagdpaaGreat.colZ n (isoL x n (sameL n) (Go.Proofs.YtmfpdakaeagdpaaGreat.rowZ n cs) (sameL n) cs)) i=nat (isoL x n (sameL n) (Go.Proofs.YtmfpdakaeagdpaaGreat.rowZ n cs) (sameL n) cs) (i*n):=fun i hi=>by
  unfold nat Go.Proofs.YtmfpdakaeagdpaaGreat.colZ
  rw[List.getElem?_map,List.getElem?_range hi]
  rfl
 constructor
 ·intro j hj
  have h2:=iso_get (x:=x) (names:=sameL n) (cs:=isoL x n (sameL n) (Go.Proofs.YtmfpdakaeagdpaaGreat.rowZ n cs) (sameL n) cs) h1.colZ sameL_perm hpos hj
  have h0:nat (isoL x n (sameL n) (Go.Proofs.YtmfpdakaeagdpaaGreat.rowZ n cs) (sameL n) cs) 0=0:=by unfold nat;rw[hrow 0 hpos];rfl
  have hj0:nat (isoL x n (sameL n) (Go.Proofs.YtmfpdakaeagdpaaGreat.rowZ n cs) (sameL n) cs) j=j:=by unfold nat;rw[hrow j hj];rfl
  rw[hcz 0 hpos,(sameL_get hj).2,Nat.zero_mul,Nat.zero_add,h0,hj0,Nat.zero_mul,Nat.zero_add,(sameL_get hj).1] at h2
  exact h2
 ·intro i hi
  obtain ⟨k,hk,e⟩:=h1.colZ.onto hi
  have h2:=iso_get (x:=x) (names:=sameL n) (cs:=isoL x n (sameL n) (Go.Proofs.YtmfpdakaeagdpaaGreat.rowZ n cs) (sameL n) cs) h1.colZ sameL_perm hk hpos
  rw[e,(sameL_get hpos).2,Nat.add_zero,Nat.add_zero,← hcz k hk,e,(sameL_get hi).1] at h2
  exact h2
end
end Go.Proofs.YtmfpdakaeagdpaaGreat
