/- Texts C1 to J54 of this proof, in one file. -/
import Derived.Test.YtmfpdakaeagdpaaGreatW01
import Derived.Test.YtmfpdakaeagdpaaGreatW02
import Derived.Test.YtmfpdakaeagdpaaGreatW03
import Derived.Test.YtmfpdakaeagdpaaGreatW04
import Derived.Test.YtmfpdakaeagdpaaGreatW05
import Derived.Test.YtmfpdakaeagdpaaGreatW06
import Derived.Test.YtmfpdakaeagdpaaGreatW07
import Derived.Test.YtmfpdakaeagdpaaGreatW08
import Derived.Test.YtmfpdakaeagdpaaGreatW09
import Derived.Test.YtmfpdakaeagdpaaGreatW10
import Derived.Test.YtmfpdakaeagdpaaGreatW11
import Derived.Test.YtmfpdakaeagdpaaGreatW12
import Derived.Test.YtmfpdakaeagdpaaGreatW13
import Derived.Test.YtmfpdakaeagdpaaGreatW14
import Derived.Test.YtmfpdakaeagdpaaGreatW15
import Derived.Test.YtmfpdakaeagdpaaGreatW16
import Derived.Test.YtmfpdakaeagdpaaGreatW17
import Derived.Test.YtmfpdakaeagdpaaGreatW18
import Derived.Test.YtmfpdakaeagdpaaGreatW19
import Derived.Test.YtmfpdakaeagdpaaGreatW20
import Derived.Test.YtmfpdakaeagdpaaGreatW21
import Derived.Test.YtmfpdakaeagdpaaGreatW22
import Derived.Test.YtmfpdakaeagdpaaGreatW23
import Derived.Test.YtmfpdakaeagdpaaGreatW24
import Derived.Test.YtmfpdakaeagdpaaGreatW25
import Derived.Test.YtmfpdakaeagdpaaGreatW26
import Derived.Test.YtmfpdakaeagdpaaGreatW27
import Derived.Below
import Derived.BigFrame
import Derived.BigQuiet
import Derived.Deep.CutBlock
import Derived.Deep.CutRange
import Derived.Deep.LoopGhost
import Derived.Deep.Matrix
import Derived.Deep.Quiet
import Derived.Deep.RegionHeld3
import Derived.DeepKeys4
import Derived.KernelRfl
import Derived.Laws.BitsAllLaws
import Derived.Laws.EntriesVeiled
import Derived.Lib.Hide
import Derived.Lib.SliceRun
import Derived.Lib.SmallJoins
import Derived.LoopIn
import Derived.LoopNIn
import Derived.Maps.AppendAt
import Derived.Maps.OwnIn
import Derived.Maps.OwnSet
import Derived.OneCell
import Derived.OrdersHeld
import Derived.OrdersIn
import Derived.OwnWalkIn
import Derived.ProofKit
import Derived.RangeFuncBound
import Derived.RangeFuncCalls
import Derived.RangeFuncLeaves
import Derived.RangeFuncNested
import Derived.Shelf.Abstract
import Derived.SizedLaws
import Derived.Still
import Derived.TacticsIn
import Derived.TacticsInMore
import Derived.Test.YtmfpdakaeagdpaaGreatProg
import Derived.WalkKit
import Derived.WalkLawsBesides
import Derived.WalkSpells
import Derived.WideKeyPair
namespace Go.Proofs.YtmfpdakaeagdpaaGreat
set_option maxRecDepth 100000
set_option maxHeartbeats 16000000
section
open Go Go.RowKit
attribute [local go_sem] over_cell
theorem hasB_of_mem {xs:List Int} {k:Nat} {x:Int} (hk:k<xs.length) (h:xs[k]?.getD 0=x):hasB xs x=true:=by
 rw[List.getElem?_eq_getElem hk] at h
 simp at h
 simp[hasB,← h]
end
section
open Go Go.RowKit
attribute [local go_sem] over_cell
theorem owns_drew {w:World} {B:Nat} {e:TypeId} {size:Nat} {v:Value} {n:Nat} {xs:List Value} (h:w.ownsRow B e size v n xs):w.drew.ownsRow B e size v n xs:=h
end
section
open Go Go.RowKit Go.ChangeShapes Go.WideShapes
theorem O1.cells3:Tryz.prog.cellsOf 3=1:=by kernel_rfl
theorem O1.cells25:Tryz.prog.cellsOf 22=1:=by kernel_rfl
theorem O1.bytes3:Tryz.prog.bytesOf 3=8:=by kernel_rfl
theorem O1.reach:reachBytes=140737488351232:=rfl
section
variable {H:Type} {enc:TypeId × Value→H} {w:World} {held:Bool}
theorem O1.ints {fuel:Nat} {c:Value} {y:DataW H × List MemPlace} (h:DataW.trod enc Tryz.prog w 0 (fun _=>true) held fuel 22 [c]=some y) (hz:∀n∈y.1.weights Tryz.prog 22,n≤reachBytes) :
  ∃a n cap g,c = .slice a n cap∧n≤cap∧IC w a n g:=by
 rcases open_ints Tryz.underlying22 Tryz.underlying3 O1.cells3 h with ⟨hcs,_⟩|⟨x,l,cap,zs,hcs,_,hl,hm,hzl,hy,hcell,hwz⟩
 ·simp only[List.cons.injEq,and_true] at hcs
  exact ⟨none,0,0,[],hcs,Nat.le_refl _,⟨rfl,by omega⟩,fun k hk=>absurd hk (Nat.not_lt_zero _)⟩
 ·simp only[List.cons.injEq,and_true] at hcs
  simp only[if_true] at hzl
  rw[hy] at hz
  have h1:=hz _ (by simp only[DataW.weights,Tryz.underlying22];exact List.mem_cons_self)
  simp only[lits,List.length_map,List.length_take,List.length_drop,O1.bytes3,O1.reach] at h1
  refine ⟨some x,l,cap,zs.take l,hcs,hl,⟨by rw[List.length_take];omega,by omega⟩,fun k hk=>?_⟩
  have h2:=hcell k (by omega)
  obtain ⟨b,off,spot⟩:=x
  have hs:spot=none:=by simpa [Addr.add] using World.cell?_spot (hcell 0 (by omega))
  subst hs
  have h3:w.cell? ⟨b,off+k,none⟩=some (.int .i64 (zs.getD k 0)):=by rw[add_plain] at h2;exact h2
  refine ⟨b,off,rfl,World.block_lt_of_cell? _ _ h3,?_⟩
  rw[h3,List.getElem?_take,if_pos hk]
  simp[List.getD]
end
end
section
theorem putAll_at {i:Nat}:∀{ps:List (Nat × Int)} {a b:List Int},a.length=b.length→((∃p,p∈ps∧p.1=i)∨a[i]?=b[i]?)→(putAll ps a)[i]?=(putAll ps b)[i]?:=by
 intro ps
 induction ps with
 | nil =>
  rintro a b _ (⟨p,hp,_⟩|h)
  ·cases hp
  ·exact h
 | cons p ps ih =>
  intro a b hl h
  show (putAll ps (a.set p.1 p.2))[i]?=(putAll ps (b.set p.1 p.2))[i]?
  apply ih (by rw[List.length_set,List.length_set,hl])
  by_cases e:p.1=i
  ·right
   rw[List.getElem?_set,List.getElem?_set,if_pos e,if_pos e,hl]
  ·rcases h with ⟨q,hq,hqi⟩|h
   ·rcases List.mem_cons.1 hq with rfl|hq
    ·exact absurd hqi e
    ·exact Or.inl ⟨q,hq,hqi⟩
   ·right
    rw[List.getElem?_set,List.getElem?_set,if_neg e,if_neg e]
    exact h
theorem putAll_eq {ps:List (Nat × Int)} {a b:List Int} (hl:a.length=b.length) (hit:∀i,i<a.length→∃p,p∈ps∧p.1=i):putAll ps a=putAll ps b:=by
 apply List.ext_getElem?
 intro i
 apply putAll_at hl
 by_cases h:i<a.length
 ·exact Or.inl (hit i h)
 ·right
  rw[List.getElem?_eq_none (by omega),List.getElem?_eq_none (by omega)]
end
section
open Go Go.RowKit
attribute [local go_sem] over_cell
attribute [local go_sem] Oper.semAt_some
theorem lineB_iff {C k d:Nat} (hk:k≤1000000) (hd:d≤1000000):lineB C k d=((wrap64 ((k:Int) / (C:Int))==wrap64 ((d:Int) / (C:Int)))||((k:Int) % (C:Int)==(d:Int) % (C:Int))):=by
 rw[divw hk,divw hd,modw,modw,Bool.eq_iff_iff]
 unfold lineB
 simp only[Bool.or_eq_true,beq_iff_eq,Int.natCast_inj]
def TwN (C:Nat) (cs:List Int) (k d:Nat):Prop:=(∀i,i<k→∀j,j<i→(lineB C i j&&cs[i]?.getD 0==cs[j]?.getD 0&&decide (0≤cs[i]?.getD 0))=false)∧∀j,j<d→(lineB C k j&&cs[k]?.getD 0==cs[j]?.getD 0&&decide (0≤cs[k]?.getD 0))=false
theorem TwN.next {C:Nat} {cs:List Int} {k d:Nat} (h:TwN C cs k d) (h1:(lineB C k d&&cs[k]?.getD 0==cs[d]?.getD 0&&decide (0≤cs[k]?.getD 0))=false):TwN C cs k (d+1) :=
 ⟨h.1,fun j hj=>by
  rcases Nat.lt_or_ge j d with e|e
  ·exact h.2 j e
  ·rw[show j=d by omega];exact h1⟩
theorem TwN.row {C:Nat} {cs:List Int} {k:Nat} (h:TwN C cs k k):TwN C cs (k+1) 0 :=
 ⟨fun i hi j hj=>by
  rcases Nat.lt_or_ge i k with e|e
  ·exact h.1 i e j hj
  ·rw[show i=k by omega] at hj ⊢;exact h.2 j hj,fun j hj=>absurd hj (by omega)⟩
theorem TwN.none {C:Nat} {cs:List Int} (h:TwN C cs cs.length 0):twiceB C cs=false:=by
 unfold twiceB
 rw[List.any_eq_false]
 intro i hi
 rw[List.mem_range] at hi
 rw[Bool.not_eq_true,List.any_eq_false]
 intro j hj
 rw[List.mem_range] at hj
 rw[h.1 i hi j hj]
 decide
theorem twice_hit {C:Nat} {cs:List Int} {k d:Nat} (hk:k<cs.length) (hd:d<k) (h:(lineB C k d&&cs[k]?.getD 0==cs[d]?.getD 0&&decide (0≤cs[k]?.getD 0))=true):twiceB C cs=true:=by
 unfold twiceB
 rw[List.any_eq_true]
 exact ⟨k,List.mem_range.2 hk,List.any_eq_true.2 ⟨d,List.mem_range.2 hd,h⟩⟩
theorem rtwice_c (r:Int) (C:Nat) (a:Option Addr) (n c:Nat) (cs:List Int) (w:World) (h:IC w a n cs) (hC:1≤C) (hn:n≤65536) :
  Calls Tryz.prog 157 #[.agg #[.int .i64 r,.int .i64 (C:Int),.slice a n c]] w fun e w'=>e = .returned (.bool (twiceB C cs))∧Below w.heap.size w w':=by
 have hm:=h.small
 go_enter Tryz.func157,Tryz.ntmps157
 go_wp2_with fail
 have fB:Below w.heap.size w (w.alloc (.cells #[.int .i64 r,.int .i64 (C:Int),.slice a n c] 24)):=(Below.refl _ _).alloc (Nat.le_refl _) _
 have FQ:Hid ((w.alloc (.cells #[.int .i64 r,.int .i64 (C:Int),.slice a n c] 24)).heap[w.heap.size]?=some (.cells #[.int .i64 r,.int .i64 (C:Int),.slice a n c] 24 (0,0))):=World.alloc_heap_new _ _
 generalize (w.alloc (.cells #[.int .i64 r,.int .i64 (C:Int),.slice a n c] 24))=W0 at fB FQ ⊢
 obtain ⟨x0,x1,x2,xl⟩:=c3_of FQ.out
 have h0:=h.mono fB
 have hCI:(1:Int)≤(C:Int):=by omega
 have hCI2:((C:Int)==0)=false:=by rw[beq_eq_false_iff_ne];omega
 have HL:=Lib.hid h.len
 clear h
 go_loopw [3,4,5] (fun s3 _ _ wr=>∃k:Nat,k≤n∧s3 = .int .i64 k∧Hid (TwN C cs k 0)∧Below W0.heap.size W0 wr) (fun s3 _ _ _=>n - (intOf s3).toNat)
 case atStart=>exact ⟨0,by omega,rfl,⟨fun i hi=>absurd hi (by omega),fun j hj=>absurd hj (by omega)⟩,Below.refl _ _⟩
 case round =>
  obtain ⟨k,hk,rfl,hn1,hbr⟩:=hrel
  clear x0 x1 x2 xl
  obtain ⟨x0,x1,x2,xl⟩:=c3_of (keepq hbr FQ.out)
  by_cases hlt:k<n
  ·have hdI:k≤1000000:=by omega
   obtain ⟨b,off,rfl,hb,hc⟩:=h0.2 k hlt
   have hki:(k:Int)<(n:Int):=by omega
   go_wp2_with fail
   go_loopw [4,5] (fun s4 _ wr=>∃d:Nat,d≤k∧s4 = .int .i64 d∧Hid (TwN C cs k d)∧Below W0.heap.size W0 wr) (fun s4 _ _=>k - (intOf s4).toNat)
   case atStart=>exact ⟨0,by omega,rfl,hn1,hbr⟩
   case round =>
    obtain ⟨d,hd,rfl,hn2,hbr⟩:=hrel
    clear x0 x1 x2 xl
    obtain ⟨x0,x1,x2,xl⟩:=c3_of (keepq hbr FQ.out)
    by_cases hlt2:d<k
    ·have hdI2:d≤1000000:=by omega
     have HLB:=Lib.hid (lineB_iff (C:=C) hdI hdI2)
     obtain ⟨b2,off2,e2,hb2,hc2⟩:=(h0.mono hbr).2 d (by omega)
     cases e2
     replace hc:=((bcell hbr).1 _ _ hb).trans hc
     have hdi:(d:Int)<(n:Int):=by omega
     have HH:=Lib.hid (fun e=>twice_hit (C:=C) (cs:=cs) (k:=k) (d:=d) (by rw[HL.out];exact hlt) hlt2 e)
     have HN:=Lib.hid (fun e=>hn2.out.next e)
     obtain ⟨t1,ht1⟩:∃t,t=(wrap64 ((k:Int) / (C:Int))==wrap64 ((d:Int) / (C:Int))):=⟨_,rfl⟩
     obtain ⟨t2,ht2⟩:∃t,t=((k:Int) % (C:Int)==(d:Int) % (C:Int)):=⟨_,rfl⟩
     rw[← ht1,← ht2] at HLB
     rw[HLB.out] at HH HN
     obtain ⟨t3,ht3⟩:∃t,t=(cs[k]?.getD 0==cs[d]?.getD 0):=⟨_,rfl⟩
     obtain ⟨t4,ht4⟩:∃t,t=decide (0≤cs[k]?.getD 0):=⟨_,rfl⟩
     rw[← ht3,← ht4] at HH HN
     obtain ⟨x,hx⟩:∃x,x=cs[k]?.getD 0:=⟨_,rfl⟩
     obtain ⟨y,hy⟩:∃y,y=cs[d]?.getD 0:=⟨_,rfl⟩
     rw[← hx,← hy] at ht3
     rw[← hx] at ht4 hc
     rw[← hy] at hc2
     clear hx hy HLB hn2
     replace ht1:=ht1.symm
     replace ht2:=ht2.symm
     replace ht3:=ht3.symm
     replace ht4:decide (x≥0)=t4:=ht4.symm
     go_wp2_with fail
     cases t1 with
     | true =>
      refine wp_region_S (fun w'=>∃u,w'=over (wr) u) [20] [(0,0),(0,1),(0,2),(0,3),(0,4),(0,5),(0,6),(0,7),(0,8),(0,9),(0,10),(0,11),(0,12),(0,13),(0,14),(0,15),(0,16),(0,17),(0,18),(0,19),(2,20)] (by kernel_rfl) (by kernel_rfl) (by exact ⟨_,below_over (by repeat (first|assumption|exact Below.refl _ _|refine keep_drew ?_|refine keep_alloc ?_ _|refine keep_trans ?_ (by assumption)))⟩) ?_
      dsimp only[pickOps,nthOp]
      repeat (first|(refine wpS_skip rfl (fun K hK=>?_);go_big_quiet_op;refine hK _ ?_;clear hK K)|(refine wpS_quiet rfl rfl (fun K hK=>?_);go_big_quiet_op;refine hK _ ?_;clear hK K))
      refine wpS_late _ _ _ rfl ?_
      dsimp only[List.map]
      go_wp2_with (fail)
      refine NoPanic.normal ?_
      cases t3 with
      | false =>
       go_wp2_with fail
       refine wp_region_S (fun w'=>∃u,w'=over (wr) u) [] [(0,0),(0,1),(0,2),(0,3),(0,4),(0,5),(0,6),(0,7),(0,8),(0,9),(0,10),(0,11),(0,12),(0,13),(0,14),(0,15),(0,16),(0,17),(0,18),(0,19),(0,20),(0,21)] (by kernel_rfl) (by kernel_rfl) (by exact ⟨_,below_over (by repeat (first|assumption|exact Below.refl _ _|refine keep_drew ?_|refine keep_alloc ?_ _|refine keep_trans ?_ (by assumption)))⟩) ?_
       dsimp only[pickOps,nthOp]
       repeat (first|(refine wpS_skip rfl (fun K hK=>?_);go_big_quiet_op;refine hK _ ?_;clear hK K)|(refine wpS_quiet rfl rfl (fun K hK=>?_);go_big_quiet_op;refine hK _ ?_;clear hK K))
       refine wpS_end ?_
       go_wp2_with fail
       go_roundw
       case rel=>exact ⟨d+1,by omega,by go_num,HN.out rfl,hbr.drew.drew⟩
       case measure=>simp[intOf];omega
      | true =>
       cases t4 with
       | false =>
        go_wp2_with fail
        refine wp_region_S (fun w'=>∃u,w'=over (wr) u) [] [(0,0),(0,1),(0,2),(0,3),(0,4),(0,5),(0,6),(0,7),(0,8),(0,9),(0,10),(0,11),(0,12),(0,13),(0,14),(0,15),(0,16),(0,17),(0,18),(0,19),(0,20),(0,21)] (by kernel_rfl) (by kernel_rfl) (by exact ⟨_,below_over (by repeat (first|assumption|exact Below.refl _ _|refine keep_drew ?_|refine keep_alloc ?_ _|refine keep_trans ?_ (by assumption)))⟩) ?_
        dsimp only[pickOps,nthOp]
        repeat (first|(refine wpS_skip rfl (fun K hK=>?_);go_big_quiet_op;refine hK _ ?_;clear hK K)|(refine wpS_quiet rfl rfl (fun K hK=>?_);go_big_quiet_op;refine hK _ ?_;clear hK K))
        refine wpS_end ?_
        go_wp2_with fail
        go_roundw
        case rel=>exact ⟨d+1,by omega,by go_num,HN.out rfl,hbr.drew.drew⟩
        case measure=>simp[intOf];omega
       | true =>
        go_wp2_with fail
        refine wp_region_S (fun w'=>∃u,w'=over (wr) u) [] [(0,0),(0,1),(0,2),(0,3),(0,4),(0,5),(0,6),(0,7),(0,8),(0,9),(0,10),(0,11),(0,12),(0,13),(0,14),(0,15),(0,16),(0,17),(0,18),(0,19),(0,20),(0,21)] (by kernel_rfl) (by kernel_rfl) (by exact ⟨_,below_over (by repeat (first|assumption|exact Below.refl _ _|refine keep_drew ?_|refine keep_alloc ?_ _|refine keep_trans ?_ (by assumption)))⟩) ?_
        dsimp only[pickOps,nthOp]
        repeat (first|(refine wpS_skip rfl (fun K hK=>?_);go_big_quiet_op;refine hK _ ?_;clear hK K)|(refine wpS_quiet rfl rfl (fun K hK=>?_);go_big_quiet_op;refine hK _ ?_;clear hK K))
        refine wpS_end ?_
        go_wp2_with fail
        go_ret
        exact ⟨ret_bool (HH.out rfl).symm,(fB.trans (hbr.mono fB.size)).drew.drew⟩
     | false =>
      cases t2 with
      | true =>
       refine wp_region_S (fun w'=>∃u,w'=over (wr) u) [20] [(0,0),(0,1),(0,2),(0,3),(0,4),(0,5),(0,6),(0,7),(0,8),(0,9),(0,10),(0,11),(0,12),(0,13),(0,14),(0,15),(0,16),(0,17),(0,18),(0,19),(2,20)] (by kernel_rfl) (by kernel_rfl) (by exact ⟨_,below_over (by repeat (first|assumption|exact Below.refl _ _|refine keep_drew ?_|refine keep_alloc ?_ _|refine keep_trans ?_ (by assumption)))⟩) ?_
       dsimp only[pickOps,nthOp]
       repeat (first|(refine wpS_skip rfl (fun K hK=>?_);go_big_quiet_op;refine hK _ ?_;clear hK K)|(refine wpS_quiet rfl rfl (fun K hK=>?_);go_big_quiet_op;refine hK _ ?_;clear hK K))
       refine wpS_late _ _ _ rfl ?_
       dsimp only[List.map]
       go_wp2_with (fail)
       refine NoPanic.normal ?_
       cases t3 with
       | false =>
        go_wp2_with fail
        refine wp_region_S (fun w'=>∃u,w'=over (wr) u) [] [(0,0),(0,1),(0,2),(0,3),(0,4),(0,5),(0,6),(0,7),(0,8),(0,9),(0,10),(0,11),(0,12),(0,13),(0,14),(0,15),(0,16),(0,17),(0,18),(0,19),(0,20),(0,21)] (by kernel_rfl) (by kernel_rfl) (by exact ⟨_,below_over (by repeat (first|assumption|exact Below.refl _ _|refine keep_drew ?_|refine keep_alloc ?_ _|refine keep_trans ?_ (by assumption)))⟩) ?_
        dsimp only[pickOps,nthOp]
        repeat (first|(refine wpS_skip rfl (fun K hK=>?_);go_big_quiet_op;refine hK _ ?_;clear hK K)|(refine wpS_quiet rfl rfl (fun K hK=>?_);go_big_quiet_op;refine hK _ ?_;clear hK K))
        refine wpS_end ?_
        go_wp2_with fail
        go_roundw
        case rel=>exact ⟨d+1,by omega,by go_num,HN.out rfl,hbr.drew.drew⟩
        case measure=>simp[intOf];omega
       | true =>
        cases t4 with
        | false =>
         go_wp2_with fail
         refine wp_region_S (fun w'=>∃u,w'=over (wr) u) [] [(0,0),(0,1),(0,2),(0,3),(0,4),(0,5),(0,6),(0,7),(0,8),(0,9),(0,10),(0,11),(0,12),(0,13),(0,14),(0,15),(0,16),(0,17),(0,18),(0,19),(0,20),(0,21)] (by kernel_rfl) (by kernel_rfl) (by exact ⟨_,below_over (by repeat (first|assumption|exact Below.refl _ _|refine keep_drew ?_|refine keep_alloc ?_ _|refine keep_trans ?_ (by assumption)))⟩) ?_
         dsimp only[pickOps,nthOp]
         repeat (first|(refine wpS_skip rfl (fun K hK=>?_);go_big_quiet_op;refine hK _ ?_;clear hK K)|(refine wpS_quiet rfl rfl (fun K hK=>?_);go_big_quiet_op;refine hK _ ?_;clear hK K))
         refine wpS_end ?_
         go_wp2_with fail
         go_roundw
         case rel=>exact ⟨d+1,by omega,by go_num,HN.out rfl,hbr.drew.drew⟩
         case measure=>simp[intOf];omega
        | true =>
         go_wp2_with fail
         refine wp_region_S (fun w'=>∃u,w'=over (wr) u) [] [(0,0),(0,1),(0,2),(0,3),(0,4),(0,5),(0,6),(0,7),(0,8),(0,9),(0,10),(0,11),(0,12),(0,13),(0,14),(0,15),(0,16),(0,17),(0,18),(0,19),(0,20),(0,21)] (by kernel_rfl) (by kernel_rfl) (by exact ⟨_,below_over (by repeat (first|assumption|exact Below.refl _ _|refine keep_drew ?_|refine keep_alloc ?_ _|refine keep_trans ?_ (by assumption)))⟩) ?_
         dsimp only[pickOps,nthOp]
         repeat (first|(refine wpS_skip rfl (fun K hK=>?_);go_big_quiet_op;refine hK _ ?_;clear hK K)|(refine wpS_quiet rfl rfl (fun K hK=>?_);go_big_quiet_op;refine hK _ ?_;clear hK K))
         refine wpS_end ?_
         go_wp2_with fail
         go_ret
         exact ⟨ret_bool (HH.out rfl).symm,(fB.trans (hbr.mono fB.size)).drew.drew⟩
      | false =>
       refine wp_region_S (fun w'=>∃u,w'=over (wr) u) [20] [(0,0),(0,1),(0,2),(0,3),(0,4),(0,5),(0,6),(0,7),(0,8),(0,9),(0,10),(0,11),(0,12),(0,13),(0,14),(0,15),(0,16),(0,17),(0,18),(0,19),(2,20)] (by kernel_rfl) (by kernel_rfl) (by exact ⟨_,below_over (by repeat (first|assumption|exact Below.refl _ _|refine keep_drew ?_|refine keep_alloc ?_ _|refine keep_trans ?_ (by assumption)))⟩) ?_
       dsimp only[pickOps,nthOp]
       repeat (first|(refine wpS_skip rfl (fun K hK=>?_);go_big_quiet_op;refine hK _ ?_;clear hK K)|(refine wpS_quiet rfl rfl (fun K hK=>?_);go_big_quiet_op;refine hK _ ?_;clear hK K))
       refine wpS_late _ _ _ rfl ?_
       dsimp only[List.map]
       go_wp2_with (fail)
       refine NoPanic.normal ?_
       go_wp2_with fail
       refine wp_region_S (fun w'=>∃u,w'=over (wr) u) [] [(0,0),(0,1),(0,2),(0,3),(0,4),(0,5),(0,6),(0,7),(0,8),(0,9),(0,10),(0,11),(0,12),(0,13),(0,14),(0,15),(0,16),(0,17),(0,18),(0,19),(0,20),(0,21)] (by kernel_rfl) (by kernel_rfl) (by exact ⟨_,below_over (by repeat (first|assumption|exact Below.refl _ _|refine keep_drew ?_|refine keep_alloc ?_ _|refine keep_trans ?_ (by assumption)))⟩) ?_
       dsimp only[pickOps,nthOp]
       repeat (first|(refine wpS_skip rfl (fun K hK=>?_);go_big_quiet_op;refine hK _ ?_;clear hK K)|(refine wpS_quiet rfl rfl (fun K hK=>?_);go_big_quiet_op;refine hK _ ?_;clear hK K))
       refine wpS_end ?_
       go_wp2_with fail
       go_roundw
       case rel=>exact ⟨d+1,by omega,by go_num,HN.out rfl,hbr.drew.drew⟩
       case measure=>simp[intOf];omega
    ·have e:d=k:=by omega
     subst e
     go_wp2_with fail
     go_roundw
     case rel=>exact ⟨d+1,by omega,by go_num,hn2.out.row,hbr⟩
     case measure=>simp[intOf];omega
  ·have e:k=n:=by omega
   subst e
   go_wp2_with fail
   go_ret
   exact ⟨ret_bool (by rw[(show Hid (TwN C cs cs.length 0) from by rw[HL.out];exact hn1).out.none]),fB.trans (hbr.mono fB.size)⟩
end
section
open Go Go.RowKit
attribute [local go_sem] over_cell
attribute [local go_sem] Oper.semAt_some
theorem any_upto {p:Int→Bool} {cs:List Int} (h:∀j,j<cs.length→p (cs[j]?.getD 0)=false):cs.any p=false:=by
 rw[List.any_eq_false]
 intro x hx
 obtain ⟨k,hk,e⟩:=List.getElem_of_mem hx
 have:=h k hk
 rw[List.getElem?_eq_getElem hk,Option.getD_some,e] at this
 rw[this];decide
theorem any_hit {p:Int→Bool} {cs:List Int} {j:Nat} (hj:j<cs.length) (h:p (cs[j]?.getD 0)=true):cs.any p=true:=by
 rw[List.getElem?_eq_getElem hj,Option.getD_some] at h
 exact List.any_eq_true.2 ⟨_,List.getElem_mem hj,h⟩
theorem rlsym_c (r:Int) (C:Nat) (a:Option Addr) (n c:Nat) (cs:List Int) (low:Int) (w:World) (h:IC w a n cs) (hC:1≤C) (hn:n≤65536) :
  Calls Tryz.prog 100 #[.agg #[.int .i64 r,.int .i64 (C:Int),.slice a n c],.int .i64 low] w fun e w'=>e = .returned (.int .i64 (symE low C cs))∧Below w.heap.size w w':=by
 have hm:=h.small
 go_enter Tryz.func100,Tryz.ntmps100
 go_wp2_with fail
 have fB:Below w.heap.size w (w.alloc (.cells #[.int .i64 r,.int .i64 (C:Int),.slice a n c] 24)):=(Below.refl _ _).alloc (Nat.le_refl _) _
 have FQ:Hid ((w.alloc (.cells #[.int .i64 r,.int .i64 (C:Int),.slice a n c] 24)).heap[w.heap.size]?=some (.cells #[.int .i64 r,.int .i64 (C:Int),.slice a n c] 24 (0,0))):=World.alloc_heap_new _ _
 generalize (w.alloc (.cells #[.int .i64 r,.int .i64 (C:Int),.slice a n c] 24))=W0 at fB FQ ⊢
 obtain ⟨x0,x1,x2,xl⟩:=c3_of FQ.out
 have h0:=h.mono fB
 have HL:=Lib.hid h.len
 have HT:=Lib.hid (fun W (hb:Below W0.heap.size W0 W)=>rtwice_c r C a n c cs W (h0.mono hb) hC hn)
 clear h
 go_loopw [5] (fun s5 wr=>∃k:Nat,k≤n∧s5 = .int .i64 k∧Hid (∀j,j<k→(decide (cs[j]?.getD 0<low)||decide ((C:Int)≤cs[j]?.getD 0))=false)∧Below W0.heap.size W0 wr) (fun s5 _=>n - (intOf s5).toNat)
 case atStart=>exact ⟨0,by omega,rfl,fun j hj=>absurd hj (by omega),Below.refl _ _⟩
 case round =>
  obtain ⟨k,hk,rfl,hn1,hbr⟩:=hrel
  clear x0 x1 x2 xl
  obtain ⟨x0,x1,x2,xl⟩:=c3_of (keepq hbr FQ.out)
  by_cases hlt:k<n
  ·obtain ⟨b,off,rfl,hb,hc⟩:=(h0.mono hbr).2 k hlt
   have hki:(k:Int)<(n:Int):=by omega
   have HN:=Lib.hid (fun e=>upB_snoc (f:=fun j=>decide (cs[j]?.getD 0<low)||decide ((C:Int)≤cs[j]?.getD 0)) hn1.out e)
   have HE:=Lib.hid (fun e=>any_hit (p:=fun x=>decide (x<low)||decide ((C:Int)≤x)) (cs:=cs) (j:=k) (by rw[HL.out];exact hlt) e)
   obtain ⟨x,hx⟩:∃x,x=cs[k]?.getD 0:=⟨_,rfl⟩
   rw[← hx] at hc HN HE
   clear hx
   obtain ⟨t1,ht1⟩:∃t,t=decide (x<low):=⟨_,rfl⟩
   obtain ⟨t2,ht2⟩:∃t,t=decide ((C:Int)≤x):=⟨_,rfl⟩
   rw[← ht1,← ht2] at HN HE
   replace ht1:=ht1.symm
   replace ht2:decide (x≥(C:Int))=t2:=ht2.symm
   go_wp2_with fail
   cases t1 with
   | true =>
    refine wp_region_S (fun w'=>∃u,w'=over (wr) u) [] [(0,0),(0,1),(0,2),(0,3),(0,4),(0,5),(0,6),(0,7),(0,8),(0,9),(0,10),(0,11),(0,12),(0,13),(0,14),(0,15),(0,16)] (by kernel_rfl) (by kernel_rfl) (by exact ⟨_,below_over (by repeat (first|assumption|exact Below.refl _ _|refine keep_drew ?_|refine keep_alloc ?_ _|refine keep_trans ?_ (by assumption)))⟩) ?_
    dsimp only[pickOps,nthOp]
    repeat (first|(refine wpS_skip rfl (fun K hK=>?_);go_big_quiet_op;refine hK _ ?_;clear hK K)|(refine wpS_quiet rfl rfl (fun K hK=>?_);go_big_quiet_op;refine hK _ ?_;clear hK K))
    refine wpS_end ?_
    go_wp2_with fail
    go_ret
    exact ⟨ret_int (by unfold symE;rw[if_pos (HE.out rfl)]),(fB.trans (hbr.mono fB.size)).drew⟩
   | false =>
    cases t2 with
    | true =>
     refine wp_region_S (fun w'=>∃u,w'=over (wr) u) [] [(0,0),(0,1),(0,2),(0,3),(0,4),(0,5),(0,6),(0,7),(0,8),(0,9),(0,10),(0,11),(0,12),(0,13),(0,14),(0,15),(0,16)] (by kernel_rfl) (by kernel_rfl) (by exact ⟨_,below_over (by repeat (first|assumption|exact Below.refl _ _|refine keep_drew ?_|refine keep_alloc ?_ _|refine keep_trans ?_ (by assumption)))⟩) ?_
     dsimp only[pickOps,nthOp]
     repeat (first|(refine wpS_skip rfl (fun K hK=>?_);go_big_quiet_op;refine hK _ ?_;clear hK K)|(refine wpS_quiet rfl rfl (fun K hK=>?_);go_big_quiet_op;refine hK _ ?_;clear hK K))
     refine wpS_end ?_
     go_wp2_with fail
     go_ret
     exact ⟨ret_int (by unfold symE;rw[if_pos (HE.out rfl)]),(fB.trans (hbr.mono fB.size)).drew⟩
    | false =>
     refine wp_region_S (fun w'=>∃u,w'=over (wr) u) [] [(0,0),(0,1),(0,2),(0,3),(0,4),(0,5),(0,6),(0,7),(0,8),(0,9),(0,10),(0,11),(0,12),(0,13),(0,14),(0,15),(0,16)] (by kernel_rfl) (by kernel_rfl) (by exact ⟨_,below_over (by repeat (first|assumption|exact Below.refl _ _|refine keep_drew ?_|refine keep_alloc ?_ _|refine keep_trans ?_ (by assumption)))⟩) ?_
     dsimp only[pickOps,nthOp]
     repeat (first|(refine wpS_skip rfl (fun K hK=>?_);go_big_quiet_op;refine hK _ ?_;clear hK K)|(refine wpS_quiet rfl rfl (fun K hK=>?_);go_big_quiet_op;refine hK _ ?_;clear hK K))
     refine wpS_end ?_
     go_wp2_with fail
     go_roundw
     case rel=>exact ⟨k+1,by omega,by go_num,HN.out rfl,hbr.drew⟩
     case measure=>simp[intOf];omega
  ·have e:k=n:=by omega
   subst e
   have HA:Hid ((cs.any fun x=>decide (x<low)||decide ((C:Int)≤x))=false):=any_upto (by rw[HL.out];exact hn1.out)
   have HE:Hid (symE low C cs=if twiceB C cs=true then 17 else 0):=by
    unfold Hid symE
    rw[if_neg (by rw[HA.out];decide)]
   generalize twiceB C cs=t at HT HE
   cases t with
   | true =>
    go_wp2_with (first|(go_at_call 157;refine (HT.out _ hbr).mono ?_;rintro _ w1 ⟨rfl,hb1⟩))
    go_ret
    exact ⟨ret_int HE.out.symm,keep_trans (fB.trans (hbr.mono fB.size)) hb1⟩
   | false =>
    go_wp2_with (first|(go_at_call 157;refine (HT.out _ hbr).mono ?_;rintro _ w1 ⟨rfl,hb1⟩))
    go_ret
    exact ⟨ret_int HE.out.symm,keep_trans (fB.trans (hbr.mono fB.size)) hb1⟩
theorem sq_wrap {N:Nat} (h:N≤16):wrap64 ((N:Int)*(N:Int))=((N*N:Nat):Int):=by
 rw[← Int.natCast_mul]
 have h1:N*N≤16*16:=Nat.mul_le_mul h h
 generalize N*N=q at h1 ⊢
 unfold wrap64
 omega
theorem rissq_c (r C:Int) (a:Option Addr) (n c:Nat) (cs:List Int) (w:World) (h:IC w a n cs) :
  Calls Tryz.prog 99 #[.agg #[.int .i64 r,.int .i64 C,.slice a n c]] w fun e w'=>e = .returned (.bool (sqB r C cs))∧Below w.heap.size w w':=by
 have hm:=h.small
 have hlen:=h.len
 clear h
 by_cases hrc:r=C
 ·subst hrc
  have hq:(r==r)=true:=by simp
  by_cases h1:1≤r
  ·have hd1:decide (r≥1)=true:=decide_eq_true h1
   by_cases h2:r≤16
   ·have hd2:decide (r≤16)=true:=decide_eq_true h2
    obtain ⟨N,rfl⟩:=Int.eq_ofNat_of_zero_le (show 0≤r by omega)
    have HE:Hid (sqB (N:Int) (N:Int) cs=((n:Int)==wrap64 ((N:Int)*(N:Int)))):=by
     unfold Hid sqB
     rw[sq_wrap (by omega),hlen,← Int.natCast_mul,hd2,show decide ((1:Int)≤(N:Int))=true from decide_eq_true h1,decide_eq_true rfl,Bool.true_and,Bool.true_and,Bool.true_and,Bool.eq_iff_iff,decide_eq_true_eq,beq_iff_eq]
    clear hlen
    go_enter Tryz.func99,Tryz.ntmps99
    go_wp2_with fail
    have fB:Below w.heap.size w (w.alloc (.cells #[.int .i64 (N:Int),.int .i64 (N:Int),.slice a n c] 24)):=(Below.refl _ _).alloc (Nat.le_refl _) _
    have FQ:Hid ((w.alloc (.cells #[.int .i64 (N:Int),.int .i64 (N:Int),.slice a n c] 24)).heap[w.heap.size]?=some (.cells #[.int .i64 (N:Int),.int .i64 (N:Int),.slice a n c] 24 (0,0))):=World.alloc_heap_new _ _
    generalize (w.alloc (.cells #[.int .i64 (N:Int),.int .i64 (N:Int),.slice a n c] 24))=W0 at fB FQ ⊢
    obtain ⟨x0,x1,x2,xl⟩:=c3_of FQ.out
    go_wp2_with fail
    go_ret
    exact ⟨ret_bool HE.out.symm,fB⟩
   ·have hd2:decide (r≤16)=false:=decide_eq_false h2
    have HE:Hid (sqB r r cs=false):=by
     unfold Hid sqB
     rw[hd2];simp
    clear hlen
    go_enter Tryz.func99,Tryz.ntmps99
    go_wp2_with fail
    have fB:Below w.heap.size w (w.alloc (.cells #[.int .i64 r,.int .i64 r,.slice a n c] 24)):=(Below.refl _ _).alloc (Nat.le_refl _) _
    have FQ:Hid ((w.alloc (.cells #[.int .i64 r,.int .i64 r,.slice a n c] 24)).heap[w.heap.size]?=some (.cells #[.int .i64 r,.int .i64 r,.slice a n c] 24 (0,0))):=World.alloc_heap_new _ _
    generalize (w.alloc (.cells #[.int .i64 r,.int .i64 r,.slice a n c] 24))=W0 at fB FQ ⊢
    obtain ⟨x0,x1,x2,xl⟩:=c3_of FQ.out
    go_wp2_with fail
    go_ret
    exact ⟨ret_bool HE.out.symm,fB⟩
  ·have hd1:decide (r≥1)=false:=decide_eq_false h1
   have HE:Hid (sqB r r cs=false):=by
    unfold Hid sqB
    rw[show decide (1≤r)=false from hd1];simp
   clear hlen
   go_enter Tryz.func99,Tryz.ntmps99
   go_wp2_with fail
   have fB:Below w.heap.size w (w.alloc (.cells #[.int .i64 r,.int .i64 r,.slice a n c] 24)):=(Below.refl _ _).alloc (Nat.le_refl _) _
   have FQ:Hid ((w.alloc (.cells #[.int .i64 r,.int .i64 r,.slice a n c] 24)).heap[w.heap.size]?=some (.cells #[.int .i64 r,.int .i64 r,.slice a n c] 24 (0,0))):=World.alloc_heap_new _ _
   generalize (w.alloc (.cells #[.int .i64 r,.int .i64 r,.slice a n c] 24))=W0 at fB FQ ⊢
   obtain ⟨x0,x1,x2,xl⟩:=c3_of FQ.out
   go_wp2_with fail
   go_ret
   exact ⟨ret_bool HE.out.symm,fB⟩
 ·have hq:(r==C)=false:=by simpa using hrc
  have HE:Hid (sqB r C cs=false):=by
   unfold Hid sqB
   rw[decide_eq_false hrc];simp
  clear hlen
  go_enter Tryz.func99,Tryz.ntmps99
  go_wp2_with fail
  have fB:Below w.heap.size w (w.alloc (.cells #[.int .i64 r,.int .i64 C,.slice a n c] 24)):=(Below.refl _ _).alloc (Nat.le_refl _) _
  have FQ:Hid ((w.alloc (.cells #[.int .i64 r,.int .i64 C,.slice a n c] 24)).heap[w.heap.size]?=some (.cells #[.int .i64 r,.int .i64 C,.slice a n c] 24 (0,0))):=World.alloc_heap_new _ _
  generalize (w.alloc (.cells #[.int .i64 r,.int .i64 C,.slice a n c] 24))=W0 at fB FQ ⊢
  obtain ⟨x0,x1,x2,xl⟩:=c3_of FQ.out
  go_wp2_with fail
  go_ret
  exact ⟨ret_bool HE.out.symm,fB⟩
theorem sqB_dims {r C:Int} {cs:List Int} (h:sqB r C cs=true):∃N:Nat,r=(N:Int)∧C=(N:Int)∧1≤N∧N≤16∧cs.length=N*N:=by
 unfold sqB at h
 simp only[Bool.and_eq_true,decide_eq_true_eq] at h
 obtain ⟨⟨⟨h1,h2⟩,h3⟩,h4⟩:=h
 refine ⟨r.toNat,by omega,by omega,by omega,by omega,?_⟩
 subst h1
 obtain ⟨N,rfl⟩:=Int.eq_ofNat_of_zero_le (show 0≤r by omega)
 rw[← Int.natCast_mul] at h4
 rw[show ((N:Int)).toNat=N from rfl]
 exact Int.ofNat.inj h4
theorem rcheck_c (r C:Int) (a:Option Addr) (n c:Nat) (cs:List Int) (w:World) (h:IC w a n cs) :
  Calls Tryz.prog 22 #[.agg #[.int .i64 r,.int .i64 C,.slice a n c]] w fun e w'=>e = .returned (.int .i64 (sqE 0 r C cs))∧Below w.heap.size w w':=by
 have HI:=Lib.hid (fun W (hb:Below w.heap.size w W)=>rissq_c r C a n c cs W (h.mono hb))
 cases hq:sqB r C cs with
 | false =>
  have HE:Hid (sqE 0 r C cs=2):=by unfold Hid sqE;rw[hq];rfl
  rw[hq] at HI
  clear hq h
  go_enter Tryz.func22,Tryz.ntmps22
  go_wp2_with fail
  have fB:Below w.heap.size w (w.alloc (.cells #[.int .i64 r,.int .i64 C,.slice a n c] 24)):=(Below.refl _ _).alloc (Nat.le_refl _) _
  have FQ:Hid ((w.alloc (.cells #[.int .i64 r,.int .i64 C,.slice a n c] 24)).heap[w.heap.size]?=some (.cells #[.int .i64 r,.int .i64 C,.slice a n c] 24 (0,0))):=World.alloc_heap_new _ _
  generalize (w.alloc (.cells #[.int .i64 r,.int .i64 C,.slice a n c] 24))=W0 at fB FQ ⊢
  obtain ⟨x0,x1,x2,xl⟩:=c3_of FQ.out
  go_wp2_with (first|(go_at_call 99;refine (HI.out _ fB).mono ?_;rintro _ w1 ⟨rfl,hb1⟩))
  go_ret
  exact ⟨ret_int HE.out.symm,keep_trans fB hb1⟩
 | true =>
  obtain ⟨N,rfl,rfl,hN1,hN2,hl⟩:=sqB_dims hq
  have HE:Hid (sqE 0 (N:Int) (N:Int) cs=symE 0 N cs):=by unfold Hid sqE;rw[hq];rfl
  have hn2:n≤65536:=by
   rw[← h.len,hl]
   exact Nat.le_trans (Nat.mul_le_mul hN2 hN2) (by decide)
  have HS:=Lib.hid (fun W (hb:Below w.heap.size w W)=>rlsym_c (N:Int) N a n c cs (0) W (h.mono hb) hN1 hn2)
  rw[hq] at HI
  clear hq h hl
  go_enter Tryz.func22,Tryz.ntmps22
  go_wp2_with fail
  have fB:Below w.heap.size w (w.alloc (.cells #[.int .i64 (N:Int),.int .i64 (N:Int),.slice a n c] 24)):=(Below.refl _ _).alloc (Nat.le_refl _) _
  have FQ:Hid ((w.alloc (.cells #[.int .i64 (N:Int),.int .i64 (N:Int),.slice a n c] 24)).heap[w.heap.size]?=some (.cells #[.int .i64 (N:Int),.int .i64 (N:Int),.slice a n c] 24 (0,0))):=World.alloc_heap_new _ _
  generalize (w.alloc (.cells #[.int .i64 (N:Int),.int .i64 (N:Int),.slice a n c] 24))=W0 at fB FQ ⊢
  obtain ⟨x0,x1,x2,xl⟩:=c3_of FQ.out
  go_wp2_with (first|(go_at_call 99;refine (HI.out _ fB).mono ?_;rintro _ w1 ⟨rfl,hb1⟩;clear x0 x1 x2 xl;obtain ⟨x0,x1,x2,xl⟩:=c3_of (keepq hb1 FQ.out))|(go_at_call 100;refine (HS.out _ (keep_trans fB hb1)).mono ?_;rintro _ w2 ⟨rfl,hb2⟩))
  go_ret
  exact ⟨ret_int HE.out.symm,keep_trans (keep_trans fB hb1) hb2⟩
end
section
def openAt (cs:List Int):Nat→Nat→Option Nat
 | 0,_=>none
 | f+1,k=>if 0≤cs[k]?.getD 0 then openAt cs f (k+1) else some k
def compR (C:Nat):Nat→List Int→List (List Int)
 | 0,cs=>[cs]
 | f+1,cs=>match openAt cs cs.length 0 with
  | none=>[cs]
  | some c=>(List.range C).flatMap fun (x:Nat)=>if freeB C cs c (x:Int)=true then compR C f (cs.set c (x:Int)) else []
def opens (cs:List Int):Nat:=cs.countP fun x=>decide (x<0)
theorem openAt_skip {cs:List Int}:∀{f k j:Nat},(∀i,k≤i→i<k+j→0≤cs[i]?.getD 0)→j≤f→openAt cs f k=openAt cs (f - j) (k+j):=by
 intro f k j
 induction j generalizing f k with
 | zero=>intro _ _;rfl
 | succ j ih =>
  intro h hj
  obtain ⟨f,rfl⟩:∃g,f=g+1:=⟨f - 1,by omega⟩
  rw[openAt,if_pos (h k (by omega) (by omega)),ih (fun i h1 h2=>h i (by omega) (by omega)) (by omega)]
  congr 1 <;> omega
theorem opens_pos {cs:List Int} {k:Nat} (hk:k<cs.length) (h:cs[k]?.getD 0<0):0<opens cs:=by
 unfold opens
 rw[List.countP_pos_iff]
 rw[List.getElem?_eq_getElem hk,Option.getD_some] at h
 exact ⟨cs[k],List.getElem_mem hk,by simpa using h⟩
theorem opens_set {cs:List Int} {k:Nat} {x:Int} (hk:k<cs.length) (h:cs[k]?.getD 0<0) (hx:0≤x):opens (cs.set k x)+1=opens cs:=by
 rw[List.getElem?_eq_getElem hk,Option.getD_some] at h
 unfold opens
 rw[List.countP_set hk]
 have h1:decide (cs[k]<0)=true:=decide_eq_true h
 have h2:decide (x<0)=false:=decide_eq_false (by omega)
 have h3:0<cs.countP fun x=>decide (x<0):=List.countP_pos_iff.2 ⟨cs[k],List.getElem_mem hk,h1⟩
 simp only[h1,h2,if_true,Bool.false_eq_true,if_false]
 omega
theorem comp_eq {C:Nat}:∀{f k m:Nat} {cs:List Int},k+f=cs.length→(∀i,i<k→0≤cs[i]?.getD 0)→opens cs≤m→compP C (fun _ _ _=>true) f k cs=compR C m cs:=by
 intro f
 induction f with
 | zero =>
  intro k m cs hk hb hm
  have hn:openAt cs cs.length 0=none:=by
   rw[openAt_skip (j:=cs.length) (fun i _ h2=>hb i (by omega)) (by omega),Nat.sub_self]
   rfl
  cases m with
  | zero=>rfl
  | succ m=>unfold compR;rw[hn];rfl
 | succ f ih =>
  intro k m cs hk hb hm
  unfold compP
  by_cases h0:0≤cs[k]?.getD 0
  ·rw[if_pos h0]
   have hb2:∀i,i<k+1→0≤cs[i]?.getD 0:=fun i hi=>by
    by_cases e:i=k
    ·subst e;exact h0
    ·exact hb i (by omega)
   exact ih (by omega) hb2 hm
  ·rw[if_neg h0]
   have hop:=opens_pos (cs:=cs) (k:=k) (by omega) (by omega)
   obtain ⟨m,rfl⟩:∃j,m=j+1:=⟨m - 1,by omega⟩
   have ho:openAt cs cs.length 0=some k:=by
    rw[openAt_skip (j:=k) (fun i _ h2=>hb i (by omega)) (by omega)]
    obtain ⟨g,hg⟩:∃g,cs.length - k=g+1:=⟨cs.length - k - 1,by omega⟩
    rw[hg,Nat.zero_add,openAt,if_neg h0]
   unfold compR
   rw[ho]
   simp only[Bool.true_and]
   congr 1
   funext x
   by_cases hx:freeB C cs k (x:Int)=true
   ·rw[if_pos hx,if_pos hx]
    refine ih (by rw[List.length_set];omega) (fun i hi=>?_) ?_
    ·rw[gset_get (by omega)]
     by_cases e:i=k
     ·rw[if_pos e];omega
     ·rw[if_neg e];exact hb i (by omega)
    ·have:=opens_set (cs:=cs) (k:=k) (x:=(x:Int)) (by omega) (by omega) (by omega)
     omega
   ·rw[if_neg hx,if_neg hx]
end
section
theorem iso_any {x y:Int} {n:Nat} {rows cols names cs:List Int} (R:PermL n rows) (K:PermL n cols):isoL x n rows cols names cs=isoL y n rows cols names cs:=by
 unfold isoL
 apply putAll_eq (by rw[List.length_replicate,List.length_replicate])
 intro i hi
 rw[List.length_replicate] at hi
 obtain ⟨a1,a2,a3⟩:=cell_parts hi
 obtain ⟨r,hr,e1⟩:=R.onto a1
 obtain ⟨k,hk,e2⟩:=K.onto a2
 obtain ⟨d1,d2⟩:=gcell_div (n:=n) (i:=r) hk
 exact ⟨_,List.mem_map.2 ⟨r*n+k,List.mem_range.2 (gcell_lt hr hk),rfl⟩,by simp only[d1,d2,e1,e2];omega⟩
end
section
open Go Go.RowKit
attribute [local go_sem] over_cell
attribute [local go_sem] Oper.semAt_some
def cntN (cs:List Int):Nat→Nat→Nat
 | 0,_=>0
 | f+1,k=>(if 0≤cs[k]?.getD 0 then 0 else 1)+cntN cs f (k+1)
theorem cntN_set {x:Int} {i:Nat}:∀(f k:Nat) (cs:List Int),i<k→cntN (cs.set i x) f k=cntN cs f k:=by
 intro f
 induction f with
 | zero=>exact fun _ _ _=>rfl
 | succ f ih =>
  intro k cs h
  unfold cntN
  rw[ih (k+1) cs (by omega),List.getElem?_set,if_neg (show ¬i=k by omega)]
theorem flatMap_len {f:Nat→List (List Int)} {b:Nat}:∀(l:List Nat),(∀x,x∈l→(f x).length≤b)→(l.flatMap f).length≤l.length*b:=by
 intro l
 induction l with
 | nil=>intro _;simp
 | cons a l ih =>
  intro h
  rw[List.flatMap_cons,List.length_append,List.length_cons,Nat.succ_mul]
  have:=h a (List.mem_cons_self ..)
  have:=ih (fun x hx=>h x (List.mem_cons_of_mem _ hx))
  omega
theorem comp_len {C:Nat} {ok:Nat→Int→List Int→Bool}:∀(f k:Nat) (cs:List Int),(compP C ok f k cs).length≤C ^ cntN cs f k:=by
 intro f
 induction f with
 | zero=>intro k cs;exact Nat.le_refl _
 | succ f ih =>
  intro k cs
  unfold compP cntN
  by_cases h0:0≤cs[k]?.getD 0
  ·rw[if_pos h0,if_pos h0,Nat.zero_add];exact ih _ _
  ·rw[if_neg h0,if_neg h0,Nat.pow_add,Nat.pow_one]
   refine Nat.le_trans (flatMap_len (b:=C ^ cntN cs f (k+1)) _ (fun x _=>?_)) (by rw[List.length_range];exact Nat.le_refl _)
   by_cases h1:(ok k (x:Int) cs&&freeB C cs k (x:Int))=true
   ·rw[if_pos h1,← cntN_set (x:=(x:Int)) f (k+1) cs (Nat.lt_succ_self k)];exact ih _ _
   ·rw[if_neg h1];exact Nat.zero_le _
def frmS (i j:Nat):Int:=if 0<i∧0<j then -1 else (i:Int)+(j:Int)
def frmL (N:Nat):List Int:=madeTo N frmS (N*N)
def redC (N:Nat):List (List Int):=compP N okT (N*N) 0 (frmL N)
theorem frmS_ge (i j:Nat) : -1≤frmS i j:=by unfold frmS;split <;> omega
theorem frmS_lt {i j N:Nat} (hi:i<N) (hj:j<N):frmS i j<(N:Int):=by unfold frmS;split <;> omega
theorem frm_get {N:Nat} (j:Nat):(frmL N)[j]?.getD 0=if j<N*N then frmS (j / N) (j % N) else 0:=by
 unfold frmL madeTo
 rw[List.getElem?_map]
 by_cases h:j<N*N
 ·rw[List.getElem?_range h,if_pos h];rfl
 ·rw[List.getElem?_eq_none (by simpa using h),if_neg h];rfl
theorem frm_once (N:Nat) (h1:1≤N) (h5:N≤5):twiceB N (frmL N)=false:=by
 match N,h1,h5 with
 | 1,_,_=>decide +kernel
 | 2,_,_=>decide +kernel
 | 3,_,_=>decide +kernel
 | 4,_,_=>decide +kernel
 | 5,_,_=>decide +kernel
theorem frm_part (N:Nat) (h1:1≤N) (h5:N≤5):Part N (frmL N) where
 n1:=h1
 n2:=by omega
 len:=by unfold frmL;rw[madeTo_len]
 ge:=fun j=>by
  rw[frm_get];split
  ·exact frmS_ge _ _
  ·decide
 lt:=fun j=>by
  rw[frm_get];split
  ·rename_i h
   obtain ⟨a,b,c⟩:=cell_parts h
   exact frmS_lt a b
  ·omega
 once:=frm_once N h1 h5
theorem frm_cnt (N:Nat) (h1:1≤N) (h5:N≤5):N ^ cntN (frmL N) (N*N) 0≤1000000000000:=by
 match N,h1,h5 with
 | 1,_,_=>decide +kernel
 | 2,_,_=>decide +kernel
 | 3,_,_=>decide +kernel
 | 4,_,_=>decide +kernel
 | 5,_,_=>decide +kernel
theorem red1_c (i j:Nat) (w:World) (hi:i≤256) (hj:j≤256):Calls Tryz.prog 145 #[.int .i64 (i:Int),.int .i64 (j:Int)] w fun e w'=>e = .returned (.int .i64 (frmS i j))∧Below w.heap.size w w':=by
 by_cases h:0<i
 ·by_cases h2:0<j
  ·have HE:Hid (frmS i j = -1):=if_pos ⟨h,h2⟩
   go_enter Tryz.func145,Tryz.ntmps145
   go_wp2
   go_ret
   exact ⟨ret_int HE.out.symm,Below.refl _ _⟩
  ·have HE:Hid (frmS i j=(i:Int)+(j:Int)):=if_neg (fun e=>h2 e.2)
   go_enter Tryz.func145,Tryz.ntmps145
   go_wp2
   go_ret
   exact ⟨ret_int HE.out.symm,Below.refl _ _⟩
 ·have HE:Hid (frmS i j=(i:Int)+(j:Int)):=if_neg (fun e=>h e.1)
  go_enter Tryz.func145,Tryz.ntmps145
  go_wp2
  go_ret
  exact ⟨ret_int HE.out.symm,Below.refl _ _⟩
theorem enterRed1:∀args w,Sem.run Tryz.prog (callFunc 145 args) w = .ok (.enter 145 args) w:=by
 intro args w;kernel_rfl
theorem allred_c (N:Nat) (h1:1≤N) (h5:N≤5) (w:World):Calls Tryz.prog 75 #[.int .i64 (N:Int)] w fun e w'=>∃a c,e = .returned (.tuple #[.slice a (redC N).length c,.int .i64 0])∧GL w' a (redC N).length N (redC N)∧Below w.heap.size w w':=by
 have HP:=Lib.hid (frm_part N h1 h5)
 have hlen:(redC N).length≤1000000000000:=Nat.le_trans (comp_len _ _ _) (frm_cnt N h1 h5)
 have HB:=Lib.hid hlen
 have HO:Hid (ordE (N:Int)=0):=by
  show ordE (N:Int)=0
  unfold ordE whenV
  have:(decide ((1:Int)≤(N:Int))&&decide ((N:Int)≤16))=true:=by simp;omega
  rw[this];rfl
 have HF:Hid (firstL [0,whenV (decide (5<(N:Int))) 20]=0):=by
  show firstL [0,whenV (decide (5<(N:Int))) 20]=0
  rw[decide_eq_false (by omega)];rfl
 have HM:=Lib.hid (fun W=>made_g N (by omega) 145 #[] #[] frmS (frmL N) W rfl enterRed1 (fun i j hi hj W2 _=>red1_c i j W2 (by omega) (by omega)))
 have hfl:(frmL N).length=N*N:=HP.out.len
 have hn2:N*N≤5*5:=Nat.mul_le_mul h5 h5
 have hmem:Hid (∀x,x∈redC N→x.length≤17592186044416):=by
  intro x hx
  have:=(comp_sound (f:=N*N) (k:=0) (by rw[hfl];omega) (fun i hi=>absurd hi (by omega)) (fun y hy=>by
   obtain ⟨i,hi,e⟩:=List.getElem_of_mem hy
   have:=HP.out.lt i
   rw[List.getElem?_eq_getElem hi,Option.getD_some,e] at this
   exact this) (once_iff.1 HP.out.once) hx).1.1
  omega
 have HFL:=Lib.hid hfl
 clear hlen hfl hn2
 go_enter Tryz.func75,Tryz.ntmps75
 go_wp2_with (first|(go_at_call 125;refine (corder_c _ _).mono ?_;rw[HO.out];rintro _ w1 ⟨rfl,rfl⟩)|(go_at_call 93;refine (twhen_c _ _ _).mono ?_;rintro _ w3 ⟨rfl,rfl⟩)|(go_at_call 92;refine (tfirst_c _ _ _ _ _ (IC.new2 _ _ _ _)).mono ?_;rw[HF.out];rintro _ w4 ⟨rfl,rfl⟩)|fail)
 go_at_call 94
 refine (HM.out _).mono ?_
 rintro _ w5 ⟨a5,c5,rfl,hown5,hb5⟩
 have hB5:=keep_trans (keep_alloc (Below.refl _ w) (.cells #[.int .i64 0,.int .i64 (whenV (decide (5<(N:Int))) 20)] 27)) hb5
 go_wp2_with fail
 have fsz:(w5.alloc (.cells #[.int .i64 (N:Int),.int .i64 (N:Int),.slice a5 (frmL N).length c5] 24)).heap.size=w5.heap.size+1:=by simp only[World.size_alloc]
 have fB:Below w5.heap.size w5 (w5.alloc (.cells #[.int .i64 (N:Int),.int .i64 (N:Int),.slice a5 (frmL N).length c5] 24)):=(Below.refl _ _).alloc (Nat.le_refl _) _
 have fq0:(w5.alloc (.cells #[.int .i64 (N:Int),.int .i64 (N:Int),.slice a5 (frmL N).length c5] 24)).heap[w5.heap.size]?=some (.cells #[.int .i64 (N:Int),.int .i64 (N:Int),.slice a5 (frmL N).length c5] 24 (0,0)):=by have h:=World.alloc_heap_new w5 (.cells #[.int .i64 (N:Int),.int .i64 (N:Int),.slice a5 (frmL N).length c5] 24);exact h
 generalize (w5.alloc (.cells #[.int .i64 (N:Int),.int .i64 (N:Int),.slice a5 (frmL N).length c5] 24))=W0 at fsz fB fq0 ⊢
 obtain ⟨x0,x1,x2,xl⟩:=c3_of fq0
 have HQ0:=Lib.hid fq0
 have HB0:=Lib.hid (keep_trans hB5 fB)
 have HOW:=Lib.hid (IC.own hown5 rfl (by rw[HFL.out];have:=Nat.mul_le_mul h5 h5;omega))
 clear fsz fq0 hown5
 go_wp2_with (first|(go_at_call 98;refine (comps_c _ _ _ _ _ _ _ _).mono ?_;rintro _ w6 ⟨rfl,hq6,hq61,hq62,hb6⟩)|(go_at_call 104;refine (taking_c _ N a5 (frmL N).length c5 (frmL N) (-1) _ HP.out HFL.out hq6 hq61 hq62 ((HOW.out.1.mono fB).mono hb6) (.inr (by rw[HFL.out];exact HB.out))).mono ?_;rintro _ w7 ⟨v7,pre,rfl,hgi,hpre,hb7⟩;obtain ⟨a7,c7,rfl⟩:=owns_shape3 hgi.1)|fail)
 go_ret2
 have hpre2:pre.map Prod.snd=redC N:=by rw[hpre,HFL.out];rfl
 have hpl:pre.length=(redC N).length:=by rw[← hpre2,List.length_map]
 obtain ⟨a8,c8,he,hgl⟩:=hgi.gl (by rw[hpl];have:=HB.out;omega) (fun x hx=>hmem.out x.2 (by rw[← hpre2];exact List.mem_map.2 ⟨x,hx,rfl⟩))
 simp only[Value.slice.injEq] at he
 obtain ⟨rfl,_,rfl⟩:=he
 rw[hpl,hpre2] at hgl
 exact ⟨a7,c7,by rw[hpl];rfl,hgl,keep_trans (keep_trans HB0.out hb6) hb7⟩
end
section
open Go Go.RowKit Go.ChangeShapes Go.WideShapes
theorem O5.cellsG:Tryz.prog.cellsOf 24=3:=by kernel_rfl
section
variable {H:Type} {enc:TypeId × Value→H} {w:World} {held:Bool}
theorem open_grid {base:Nat} {v:Value} {d:DataW H} {p:List MemPlace} (hv:Value.okWide Tryz.prog w .any base 24 v) (h:DataW.Trod enc Tryz.prog w 0 (fun _=>true) held 24 v d p) (hz:∀n∈d.weights Tryz.prog 24,n≤reachBytes) :
  ∃(r C:Int) (a:Option Addr) (n c:Nat) (P:List Int),v = .agg #[.int .i64 r,.int .i64 C,.slice a n c]∧n≤c∧IC w a n P:=by
 obtain ⟨cs,rfl,hsz⟩:=okWide_struct Tryz.underlying24 hv
 obtain ⟨c0,c1,c2,rfl⟩:=Go.Joins.array3 (hsz.trans O5.cellsG)
 obtain ⟨fuel,hf⟩:=h
 obtain ⟨y0,y1,y2,m,hx,_,h0,h1,h2⟩:=Go.Deep.trod_struct3 Tryz.underlying24 hf
 have h0':DataW.trod enc Tryz.prog w 0 (fun _=>true) held m 3 [c0]=some y0:=by simpa [Value.cells,O1.cells3] using h0
 have h1':DataW.trod enc Tryz.prog w 0 (fun _=>true) held m 3 [c1]=some y1:=by simpa [Value.cells,O1.cells3] using h1
 have h2':DataW.trod enc Tryz.prog w 0 (fun _=>true) held m 22 [c2]=some y2:=by simpa [Value.cells,O1.cells3,O1.cells25] using h2
 simp only[Prod.mk.injEq] at hx
 obtain ⟨rfl,rfl⟩:=hx
 have hwz:∀n,n∈y2.1.weights Tryz.prog 22→n≤reachBytes:=by
  intro n hn
  refine hz n ?_
  simp only[DataW.weights,Tryz.underlying24,List.map_cons,List.map_nil,DataW.weightsEach,List.mem_append]
  exact .inr (.inr (.inl hn))
 obtain ⟨r,e0,_,_⟩:=DataW.trod_int Tryz.underlying3 h0'
 obtain ⟨C,e1,_,_⟩:=DataW.trod_int Tryz.underlying3 h1'
 obtain ⟨a,n,c,P,rfl,hc,hP⟩:=O1.ints h2' hwz
 simp only[List.cons.injEq,and_true] at e0 e1
 exact ⟨r,C,a,n,c,P,by rw[e0,e1],hc,hP⟩
end
end
section
theorem sumN_congr {f g:Nat→Nat}:∀{k:Nat},(∀i,i<k→f i=g i)→sumN f k=sumN g k
 | 0,_=>rfl
 | k+1,h=>by rw[sumN_succ,sumN_succ,sumN_congr (k:=k) (fun i hi=>h i (by omega)),h k (by omega)]
theorem sumN_add (f g:Nat→Nat):∀k:Nat,sumN (fun i=>f i+g i) k=sumN f k+sumN g k
 | 0=>rfl
 | k+1=>by rw[sumN_succ,sumN_add f g k,sumN_succ,sumN_succ];omega
theorem sumN_zero:∀k:Nat,sumN (fun _=>0) k=0
 | 0=>rfl
 | k+1=>by rw[sumN_succ,sumN_zero k]
theorem sumN_swap (F:Nat→Nat→Nat) (m:Nat):∀n:Nat,sumN (fun a=>sumN (fun b=>F a b) m) n=sumN (fun b=>sumN (fun a=>F a b) n) m
 | 0=>(sumN_zero m).symm
 | n+1=>by
  rw[sumN_succ,sumN_swap F m n,← sumN_add]
  rfl
theorem sumN_if {g:Nat→Nat} {k:Nat}:∀{n:Nat},k≤n→sumN (fun i=>if i<k then g i else 0) n=sumN g k
 | 0,h=>by rw[show k=0 by omega];rfl
 | n+1,h=>by
  rcases Nat.lt_or_ge n k with e|e
  ·rw[show k=n+1 by omega]
   exact sumN_congr (fun i hi=>if_pos hi)
  ·rw[sumN_succ,sumN_if (n:=n) e,if_neg (by omega)];omega
def iuM (n:Nat) (cs:List Int) (i k j m:Nat):Nat:=sumN (fun m=>if j<m then itC n cs i k j m else 0) m
def iuJ (n:Nat) (cs:List Int) (i k j:Nat):Nat:=sumN (fun j=>iuM n cs i k j n) j
def iuK (n:Nat) (cs:List Int) (i k:Nat):Nat:=sumN (fun k=>if i<k then iuJ n cs i k n else 0) k
def iuI (n:Nat) (cs:List Int) (i:Nat):Nat:=sumN (fun i=>iuK n cs i n) i
theorem iuM_le (n:Nat) (cs:List Int) (i k j m:Nat):iuM n cs i k j m≤m:=by
 have:=sumN_le (f:=fun m=>if j<m then itC n cs i k j m else 0) (B:=1) (k:=m) (fun a _=>by have:=itC_le n cs i k j a;split <;> omega)
 unfold iuM;omega
theorem iuJ_le (n:Nat) (cs:List Int) (i k j:Nat) (hj:j≤n):iuJ n cs i k j≤n*n :=
 Nat.le_trans (sumN_le (B:=n) (fun a _=>iuM_le n cs i k a n)) (Nat.mul_le_mul_right _ hj)
theorem iuK_le (n:Nat) (cs:List Int) (i k:Nat) (hk:k≤n):iuK n cs i k≤n*(n*n) :=
 Nat.le_trans (sumN_le (B:=n*n) (fun a _=>by have:=iuJ_le n cs i a n (Nat.le_refl _);split <;> omega)) (Nat.mul_le_mul_right _ hk)
theorem iuI_le (n:Nat) (cs:List Int) (i:Nat) (hi:i≤n):iuI n cs i≤n*(n*(n*n)) :=
 Nat.le_trans (sumN_le (B:=n*(n*n)) (fun a _=>iuK_le n cs a n (Nat.le_refl _))) (Nat.mul_le_mul_right _ hi)
theorem inter_eq (n:Nat) (cs:List Int):iuI n cs n=itK n cs n:=by
 have h1:∀i k,itM n cs k i n=iuJ n cs i k n:=fun i k=>by
  have:itM n cs k i n=sumN (fun m=>sumN (fun j=>if j<m then itC n cs i k j m else 0) n) n :=
   sumN_congr (fun m hm=>(sumN_if (g:=fun j=>itC n cs i k j m) (k:=m) (by omega)).symm)
  rw[this,sumN_swap]
  rfl
 have h2:itK n cs n=sumN (fun k=>sumN (fun i=>if i<k then iuJ n cs i k n else 0) n) n :=
  sumN_congr (fun k hk=>by
   rw[sumN_if (g:=fun i=>iuJ n cs i k n) (k:=k) (by omega)]
   exact sumN_congr (fun i _=>h1 i k))
 rw[h2,sumN_swap]
 rfl
end
end Go.Proofs.YtmfpdakaeagdpaaGreat
