/- Texts O3 to J51 of this proof, in one file. -/
import Derived.Test.YtmfpdakaeagdpaaGreatW01
import Derived.Test.YtmfpdakaeagdpaaGreatW02
import Derived.Test.YtmfpdakaeagdpaaGreatW03
import Derived.Test.YtmfpdakaeagdpaaGreatW04
import Derived.Test.YtmfpdakaeagdpaaGreatW05
import Derived.Test.YtmfpdakaeagdpaaGreatW06
import Derived.Test.YtmfpdakaeagdpaaGreatW07
import Derived.Test.YtmfpdakaeagdpaaGreatW08
import Derived.Test.YtmfpdakaeagdpaaGreatW09
import Derived.Test.YtmfpdakaeagdpaaGreatW10
import Derived.Test.YtmfpdakaeagdpaaGreatW11
import Derived.Test.YtmfpdakaeagdpaaGreatW12
import Derived.Test.YtmfpdakaeagdpaaGreatW13
import Derived.Test.YtmfpdakaeagdpaaGreatW14
import Derived.Test.YtmfpdakaeagdpaaGreatW15
import Derived.Test.YtmfpdakaeagdpaaGreatW16
import Derived.Test.YtmfpdakaeagdpaaGreatW17
import Derived.Test.YtmfpdakaeagdpaaGreatW18
import Derived.Test.YtmfpdakaeagdpaaGreatW19
import Derived.Test.YtmfpdakaeagdpaaGreatW20
import Derived.Test.YtmfpdakaeagdpaaGreatW21
import Derived.Test.YtmfpdakaeagdpaaGreatW22
import Derived.Test.YtmfpdakaeagdpaaGreatW23
import Derived.Test.YtmfpdakaeagdpaaGreatW24
import Derived.Test.YtmfpdakaeagdpaaGreatW25
import Derived.Test.YtmfpdakaeagdpaaGreatW26
import Derived.Test.YtmfpdakaeagdpaaGreatW27
import Derived.Below
import Derived.BigFrame
import Derived.BigQuiet
import Derived.ChangeArms
import Derived.Deep.CutBlock
import Derived.Deep.CutRange
import Derived.Deep.LoopGhost
import Derived.Deep.Matrix
import Derived.Deep.Quiet
import Derived.Deep.RegionHeld3
import Derived.KernelRfl
import Derived.Laws.BitsAllLaws
import Derived.Lib.Hide
import Derived.Lib.SliceRun
import Derived.Lib.SmallJoins
import Derived.LoopIn
import Derived.LoopNIn
import Derived.Maps.AppendAt
import Derived.Maps.OwnIn
import Derived.OneCell
import Derived.OrdersHeld
import Derived.OwnWalkIn
import Derived.ProofKit
import Derived.RangeFuncBound
import Derived.RangeFuncCalls
import Derived.RangeFuncLeaves
import Derived.RangeFuncNested
import Derived.Shelf.Abstract
import Derived.SizedLaws
import Derived.Still
import Derived.TacticsInMore
import Derived.Test.YtmfpdakaeagdpaaGreatProg
import Derived.WalkKit
import Derived.WalkLawsBesides
import Derived.WalkSpells
namespace Go.Proofs.YtmfpdakaeagdpaaGreat
set_option maxRecDepth 100000
set_option maxHeartbeats 16000000
section
open Go Go.RowKit Go.ChangeShapes Go.WideShapes
def BC (w:World) (a:Option Addr) (n:Nat) (xs:List Int):Prop :=
 (xs.length=n∧n≤140737488351232)∧∀k,k<n→(0≤xs[k]?.getD 0∧xs[k]?.getD 0≤255)∧∃b off,a=some ⟨b,off,none⟩∧b<w.heap.size∧w.cell? ⟨b,off+k,none⟩=some (.int .u8 (xs[k]?.getD 0))
theorem wf_u8 {n:Int} (h:(Lit.int .u8 n).wf=true):0≤n∧n≤255:=by
 have h1:(decide (IntKind.u8.min≤n)&&decide (n≤IntKind.u8.max))=true:=h
 rw[Bool.and_eq_true,decide_eq_true_eq,decide_eq_true_eq] at h1
 exact ⟨h1.1,h1.2⟩
section
variable {H:Type} {enc:TypeId × Value→H} {w:World} {held:Bool}
end
end
section
open Go Go.RowKit
attribute [local go_sem] over_cell
attribute [local go_sem] Oper.semAt_some
theorem lineB_iff {C k d:Nat} (hk:k≤1000000) (hd:d≤1000000):lineB C k d=((wrap64 ((k:Int) / (C:Int))==wrap64 ((d:Int) / (C:Int)))||((k:Int) % (C:Int)==(d:Int) % (C:Int))):=by
 rw[divw hk,divw hd,modw,modw,Bool.eq_iff_iff]
 unfold lineB
 simp only[Bool.or_eq_true,beq_iff_eq,Int.natCast_inj]
def TwN (C:Nat) (cs:List Int) (k d:Nat):Prop:=(∀i,i<k→∀j,j<i→(lineB C i j&&cs[i]?.getD 0==cs[j]?.getD 0&&decide (0≤cs[i]?.getD 0))=false)∧∀j,j<d→(lineB C k j&&cs[k]?.getD 0==cs[j]?.getD 0&&decide (0≤cs[k]?.getD 0))=false
theorem TwN.next {C:Nat} {cs:List Int} {k d:Nat} (h:TwN C cs k d) (h1:(lineB C k d&&cs[k]?.getD 0==cs[d]?.getD 0&&decide (0≤cs[k]?.getD 0))=false):TwN C cs k (d+1) :=
 ⟨h.1,fun j hj=>by
  rcases Nat.lt_or_ge j d with e|e
  ·exact h.2 j e
  ·rw[show j=d by omega];exact h1⟩
theorem TwN.row {C:Nat} {cs:List Int} {k:Nat} (h:TwN C cs k k):TwN C cs (k+1) 0 :=
 ⟨fun i hi j hj=>by
  rcases Nat.lt_or_ge i k with e|e
  ·exact h.1 i e j hj
  ·rw[show i=k by omega] at hj ⊢;exact h.2 j hj,fun j hj=>absurd hj (by omega)⟩
theorem TwN.none {C:Nat} {cs:List Int} (h:TwN C cs cs.length 0):twiceB C cs=false:=by
 unfold twiceB
 rw[List.any_eq_false]
 intro i hi
 rw[List.mem_range] at hi
 rw[Bool.not_eq_true,List.any_eq_false]
 intro j hj
 rw[List.mem_range] at hj
 rw[h.1 i hi j hj]
 decide
theorem twice_hit {C:Nat} {cs:List Int} {k d:Nat} (hk:k<cs.length) (hd:d<k) (h:(lineB C k d&&cs[k]?.getD 0==cs[d]?.getD 0&&decide (0≤cs[k]?.getD 0))=true):twiceB C cs=true:=by
 unfold twiceB
 rw[List.any_eq_true]
 exact ⟨k,List.mem_range.2 hk,List.any_eq_true.2 ⟨d,List.mem_range.2 hd,h⟩⟩
theorem rtwice_c (r:Int) (C:Nat) (a:Option Addr) (n c:Nat) (cs:List Int) (w:World) (h:IC w a n cs) (hC:1≤C) (hn:n≤65536) :
  Calls Tryz.prog 157 #[.agg #[.int .i64 r,.int .i64 (C:Int),.slice a n c]] w fun e w'=>e = .returned (.bool (twiceB C cs))∧Below w.heap.size w w':=by
 have hm:=h.small
 go_enter Tryz.func157,Tryz.ntmps157
 go_wp2_with fail
 have fB:Below w.heap.size w (w.alloc (.cells #[.int .i64 r,.int .i64 (C:Int),.slice a n c] 24)):=(Below.refl _ _).alloc (Nat.le_refl _) _
 have FQ:Hid ((w.alloc (.cells #[.int .i64 r,.int .i64 (C:Int),.slice a n c] 24)).heap[w.heap.size]?=some (.cells #[.int .i64 r,.int .i64 (C:Int),.slice a n c] 24 (0,0))):=World.alloc_heap_new _ _
 generalize (w.alloc (.cells #[.int .i64 r,.int .i64 (C:Int),.slice a n c] 24))=W0 at fB FQ ⊢
 obtain ⟨x0,x1,x2,xl⟩:=c3_of FQ.out
 have h0:=h.mono fB
 have hCI:(1:Int)≤(C:Int):=by omega
 have hCI2:((C:Int)==0)=false:=by rw[beq_eq_false_iff_ne];omega
 have HL:=Lib.hid h.len
 clear h
 go_loopw [3,4,5] (fun s3 _ _ wr=>∃k:Nat,k≤n∧s3 = .int .i64 k∧Hid (TwN C cs k 0)∧Below W0.heap.size W0 wr) (fun s3 _ _ _=>n - (intOf s3).toNat)
 case atStart=>exact ⟨0,by omega,rfl,⟨fun i hi=>absurd hi (by omega),fun j hj=>absurd hj (by omega)⟩,Below.refl _ _⟩
 case round =>
  obtain ⟨k,hk,rfl,hn1,hbr⟩:=hrel
  clear x0 x1 x2 xl
  obtain ⟨x0,x1,x2,xl⟩:=c3_of (keepq hbr FQ.out)
  by_cases hlt:k<n
  ·have hdI:k≤1000000:=by omega
   obtain ⟨b,off,rfl,hb,hc⟩:=h0.2 k hlt
   have hki:(k:Int)<(n:Int):=by omega
   go_wp2_with fail
   go_loopw [4,5] (fun s4 _ wr=>∃d:Nat,d≤k∧s4 = .int .i64 d∧Hid (TwN C cs k d)∧Below W0.heap.size W0 wr) (fun s4 _ _=>k - (intOf s4).toNat)
   case atStart=>exact ⟨0,by omega,rfl,hn1,hbr⟩
   case round =>
    obtain ⟨d,hd,rfl,hn2,hbr⟩:=hrel
    clear x0 x1 x2 xl
    obtain ⟨x0,x1,x2,xl⟩:=c3_of (keepq hbr FQ.out)
    by_cases hlt2:d<k
    ·have hdI2:d≤1000000:=by omega
     have HLB:=Lib.hid (lineB_iff (C:=C) hdI hdI2)
     obtain ⟨b2,off2,e2,hb2,hc2⟩:=(h0.mono hbr).2 d (by omega)
     cases e2
     replace hc:=((bcell hbr).1 _ _ hb).trans hc
     have hdi:(d:Int)<(n:Int):=by omega
     have HH:=Lib.hid (fun e=>twice_hit (C:=C) (cs:=cs) (k:=k) (d:=d) (by rw[HL.out];exact hlt) hlt2 e)
     have HN:=Lib.hid (fun e=>hn2.out.next e)
     obtain ⟨t1,ht1⟩:∃t,t=(wrap64 ((k:Int) / (C:Int))==wrap64 ((d:Int) / (C:Int))):=⟨_,rfl⟩
     obtain ⟨t2,ht2⟩:∃t,t=((k:Int) % (C:Int)==(d:Int) % (C:Int)):=⟨_,rfl⟩
     rw[← ht1,← ht2] at HLB
     rw[HLB.out] at HH HN
     obtain ⟨t3,ht3⟩:∃t,t=(cs[k]?.getD 0==cs[d]?.getD 0):=⟨_,rfl⟩
     obtain ⟨t4,ht4⟩:∃t,t=decide (0≤cs[k]?.getD 0):=⟨_,rfl⟩
     rw[← ht3,← ht4] at HH HN
     obtain ⟨x,hx⟩:∃x,x=cs[k]?.getD 0:=⟨_,rfl⟩
     obtain ⟨y,hy⟩:∃y,y=cs[d]?.getD 0:=⟨_,rfl⟩
     rw[← hx,← hy] at ht3
     rw[← hx] at ht4 hc
     rw[← hy] at hc2
     clear hx hy HLB hn2
     replace ht1:=ht1.symm
     replace ht2:=ht2.symm
     replace ht3:=ht3.symm
     replace ht4:decide (x≥0)=t4:=ht4.symm
     go_wp2_with fail
     cases t1 with
     | true =>
      refine wp_region_S (fun w'=>∃u,w'=over (wr) u) [20] [(0,0),(0,1),(0,2),(0,3),(0,4),(0,5),(0,6),(0,7),(0,8),(0,9),(0,10),(0,11),(0,12),(0,13),(0,14),(0,15),(0,16),(0,17),(0,18),(0,19),(2,20)] (by kernel_rfl) (by kernel_rfl) (by exact ⟨_,below_over (by repeat (first|assumption|exact Below.refl _ _|refine keep_drew ?_|refine keep_alloc ?_ _|refine keep_trans ?_ (by assumption)))⟩) ?_
      dsimp only[pickOps,nthOp]
      repeat (first|(refine wpS_skip rfl (fun K hK=>?_);go_big_quiet_op;refine hK _ ?_;clear hK K)|(refine wpS_quiet rfl rfl (fun K hK=>?_);go_big_quiet_op;refine hK _ ?_;clear hK K))
      refine wpS_late _ _ _ rfl ?_
      dsimp only[List.map]
      go_wp2_with (fail)
      refine NoPanic.normal ?_
      cases t3 with
      | false =>
       go_wp2_with fail
       refine wp_region_S (fun w'=>∃u,w'=over (wr) u) [] [(0,0),(0,1),(0,2),(0,3),(0,4),(0,5),(0,6),(0,7),(0,8),(0,9),(0,10),(0,11),(0,12),(0,13),(0,14),(0,15),(0,16),(0,17),(0,18),(0,19),(0,20),(0,21)] (by kernel_rfl) (by kernel_rfl) (by exact ⟨_,below_over (by repeat (first|assumption|exact Below.refl _ _|refine keep_drew ?_|refine keep_alloc ?_ _|refine keep_trans ?_ (by assumption)))⟩) ?_
       dsimp only[pickOps,nthOp]
       repeat (first|(refine wpS_skip rfl (fun K hK=>?_);go_big_quiet_op;refine hK _ ?_;clear hK K)|(refine wpS_quiet rfl rfl (fun K hK=>?_);go_big_quiet_op;refine hK _ ?_;clear hK K))
       refine wpS_end ?_
       go_wp2_with fail
       go_roundw
       case rel=>exact ⟨d+1,by omega,by go_num,HN.out rfl,hbr.drew.drew⟩
       case measure=>simp[intOf];omega
      | true =>
       cases t4 with
       | false =>
        go_wp2_with fail
        refine wp_region_S (fun w'=>∃u,w'=over (wr) u) [] [(0,0),(0,1),(0,2),(0,3),(0,4),(0,5),(0,6),(0,7),(0,8),(0,9),(0,10),(0,11),(0,12),(0,13),(0,14),(0,15),(0,16),(0,17),(0,18),(0,19),(0,20),(0,21)] (by kernel_rfl) (by kernel_rfl) (by exact ⟨_,below_over (by repeat (first|assumption|exact Below.refl _ _|refine keep_drew ?_|refine keep_alloc ?_ _|refine keep_trans ?_ (by assumption)))⟩) ?_
        dsimp only[pickOps,nthOp]
        repeat (first|(refine wpS_skip rfl (fun K hK=>?_);go_big_quiet_op;refine hK _ ?_;clear hK K)|(refine wpS_quiet rfl rfl (fun K hK=>?_);go_big_quiet_op;refine hK _ ?_;clear hK K))
        refine wpS_end ?_
        go_wp2_with fail
        go_roundw
        case rel=>exact ⟨d+1,by omega,by go_num,HN.out rfl,hbr.drew.drew⟩
        case measure=>simp[intOf];omega
       | true =>
        go_wp2_with fail
        refine wp_region_S (fun w'=>∃u,w'=over (wr) u) [] [(0,0),(0,1),(0,2),(0,3),(0,4),(0,5),(0,6),(0,7),(0,8),(0,9),(0,10),(0,11),(0,12),(0,13),(0,14),(0,15),(0,16),(0,17),(0,18),(0,19),(0,20),(0,21)] (by kernel_rfl) (by kernel_rfl) (by exact ⟨_,below_over (by repeat (first|assumption|exact Below.refl _ _|refine keep_drew ?_|refine keep_alloc ?_ _|refine keep_trans ?_ (by assumption)))⟩) ?_
        dsimp only[pickOps,nthOp]
        repeat (first|(refine wpS_skip rfl (fun K hK=>?_);go_big_quiet_op;refine hK _ ?_;clear hK K)|(refine wpS_quiet rfl rfl (fun K hK=>?_);go_big_quiet_op;refine hK _ ?_;clear hK K))
        refine wpS_end ?_
        go_wp2_with fail
        go_ret
        exact ⟨ret_bool (HH.out rfl).symm,(fB.trans (hbr.mono fB.size)).drew.drew⟩
     | false =>
      cases t2 with
      | true =>
       refine wp_region_S (fun w'=>∃u,w'=over (wr) u) [20] [(0,0),(0,1),(0,2),(0,3),(0,4),(0,5),(0,6),(0,7),(0,8),(0,9),(0,10),(0,11),(0,12),(0,13),(0,14),(0,15),(0,16),(0,17),(0,18),(0,19),(2,20)] (by kernel_rfl) (by kernel_rfl) (by exact ⟨_,below_over (by repeat (first|assumption|exact Below.refl _ _|refine keep_drew ?_|refine keep_alloc ?_ _|refine keep_trans ?_ (by assumption)))⟩) ?_
       dsimp only[pickOps,nthOp]
       repeat (first|(refine wpS_skip rfl (fun K hK=>?_);go_big_quiet_op;refine hK _ ?_;clear hK K)|(refine wpS_quiet rfl rfl (fun K hK=>?_);go_big_quiet_op;refine hK _ ?_;clear hK K))
       refine wpS_late _ _ _ rfl ?_
       dsimp only[List.map]
       go_wp2_with (fail)
       refine NoPanic.normal ?_
       cases t3 with
       | false =>
        go_wp2_with fail
        refine wp_region_S (fun w'=>∃u,w'=over (wr) u) [] [(0,0),(0,1),(0,2),(0,3),(0,4),(0,5),(0,6),(0,7),(0,8),(0,9),(0,10),(0,11),(0,12),(0,13),(0,14),(0,15),(0,16),(0,17),(0,18),(0,19),(0,20),(0,21)] (by kernel_rfl) (by kernel_rfl) (by exact ⟨_,below_over (by repeat (first|assumption|exact Below.refl _ _|refine keep_drew ?_|refine keep_alloc ?_ _|refine keep_trans ?_ (by assumption)))⟩) ?_
        dsimp only[pickOps,nthOp]
        repeat (first|(refine wpS_skip rfl (fun K hK=>?_);go_big_quiet_op;refine hK _ ?_;clear hK K)|(refine wpS_quiet rfl rfl (fun K hK=>?_);go_big_quiet_op;refine hK _ ?_;clear hK K))
        refine wpS_end ?_
        go_wp2_with fail
        go_roundw
        case rel=>exact ⟨d+1,by omega,by go_num,HN.out rfl,hbr.drew.drew⟩
        case measure=>simp[intOf];omega
       | true =>
        cases t4 with
        | false =>
         go_wp2_with fail
         refine wp_region_S (fun w'=>∃u,w'=over (wr) u) [] [(0,0),(0,1),(0,2),(0,3),(0,4),(0,5),(0,6),(0,7),(0,8),(0,9),(0,10),(0,11),(0,12),(0,13),(0,14),(0,15),(0,16),(0,17),(0,18),(0,19),(0,20),(0,21)] (by kernel_rfl) (by kernel_rfl) (by exact ⟨_,below_over (by repeat (first|assumption|exact Below.refl _ _|refine keep_drew ?_|refine keep_alloc ?_ _|refine keep_trans ?_ (by assumption)))⟩) ?_
         dsimp only[pickOps,nthOp]
         repeat (first|(refine wpS_skip rfl (fun K hK=>?_);go_big_quiet_op;refine hK _ ?_;clear hK K)|(refine wpS_quiet rfl rfl (fun K hK=>?_);go_big_quiet_op;refine hK _ ?_;clear hK K))
         refine wpS_end ?_
         go_wp2_with fail
         go_roundw
         case rel=>exact ⟨d+1,by omega,by go_num,HN.out rfl,hbr.drew.drew⟩
         case measure=>simp[intOf];omega
        | true =>
         go_wp2_with fail
         refine wp_region_S (fun w'=>∃u,w'=over (wr) u) [] [(0,0),(0,1),(0,2),(0,3),(0,4),(0,5),(0,6),(0,7),(0,8),(0,9),(0,10),(0,11),(0,12),(0,13),(0,14),(0,15),(0,16),(0,17),(0,18),(0,19),(0,20),(0,21)] (by kernel_rfl) (by kernel_rfl) (by exact ⟨_,below_over (by repeat (first|assumption|exact Below.refl _ _|refine keep_drew ?_|refine keep_alloc ?_ _|refine keep_trans ?_ (by assumption)))⟩) ?_
         dsimp only[pickOps,nthOp]
         repeat (first|(refine wpS_skip rfl (fun K hK=>?_);go_big_quiet_op;refine hK _ ?_;clear hK K)|(refine wpS_quiet rfl rfl (fun K hK=>?_);go_big_quiet_op;refine hK _ ?_;clear hK K))
         refine wpS_end ?_
         go_wp2_with fail
         go_ret
         exact ⟨ret_bool (HH.out rfl).symm,(fB.trans (hbr.mono fB.size)).drew.drew⟩
      | false =>
       refine wp_region_S (fun w'=>∃u,w'=over (wr) u) [20] [(0,0),(0,1),(0,2),(0,3),(0,4),(0,5),(0,6),(0,7),(0,8),(0,9),(0,10),(0,11),(0,12),(0,13),(0,14),(0,15),(0,16),(0,17),(0,18),(0,19),(2,20)] (by kernel_rfl) (by kernel_rfl) (by exact ⟨_,below_over (by repeat (first|assumption|exact Below.refl _ _|refine keep_drew ?_|refine keep_alloc ?_ _|refine keep_trans ?_ (by assumption)))⟩) ?_
       dsimp only[pickOps,nthOp]
       repeat (first|(refine wpS_skip rfl (fun K hK=>?_);go_big_quiet_op;refine hK _ ?_;clear hK K)|(refine wpS_quiet rfl rfl (fun K hK=>?_);go_big_quiet_op;refine hK _ ?_;clear hK K))
       refine wpS_late _ _ _ rfl ?_
       dsimp only[List.map]
       go_wp2_with (fail)
       refine NoPanic.normal ?_
       go_wp2_with fail
       refine wp_region_S (fun w'=>∃u,w'=over (wr) u) [] [(0,0),(0,1),(0,2),(0,3),(0,4),(0,5),(0,6),(0,7),(0,8),(0,9),(0,10),(0,11),(0,12),(0,13),(0,14),(0,15),(0,16),(0,17),(0,18),(0,19),(0,20),(0,21)] (by kernel_rfl) (by kernel_rfl) (by exact ⟨_,below_over (by repeat (first|assumption|exact Below.refl _ _|refine keep_drew ?_|refine keep_alloc ?_ _|refine keep_trans ?_ (by assumption)))⟩) ?_
       dsimp only[pickOps,nthOp]
       repeat (first|(refine wpS_skip rfl (fun K hK=>?_);go_big_quiet_op;refine hK _ ?_;clear hK K)|(refine wpS_quiet rfl rfl (fun K hK=>?_);go_big_quiet_op;refine hK _ ?_;clear hK K))
       refine wpS_end ?_
       go_wp2_with fail
       go_roundw
       case rel=>exact ⟨d+1,by omega,by go_num,HN.out rfl,hbr.drew.drew⟩
       case measure=>simp[intOf];omega
    ·have e:d=k:=by omega
     subst e
     go_wp2_with fail
     go_roundw
     case rel=>exact ⟨d+1,by omega,by go_num,hn2.out.row,hbr⟩
     case measure=>simp[intOf];omega
  ·have e:k=n:=by omega
   subst e
   go_wp2_with fail
   go_ret
   exact ⟨ret_bool (by rw[(show Hid (TwN C cs cs.length 0) from by rw[HL.out];exact hn1).out.none]),fB.trans (hbr.mono fB.size)⟩
end
section
open Go Go.RowKit
attribute [local go_sem] over_cell
attribute [local go_sem] Oper.semAt_some
theorem any_upto {p:Int→Bool} {cs:List Int} (h:∀j,j<cs.length→p (cs[j]?.getD 0)=false):cs.any p=false:=by
 rw[List.any_eq_false]
 intro x hx
 obtain ⟨k,hk,e⟩:=List.getElem_of_mem hx
 have:=h k hk
 rw[List.getElem?_eq_getElem hk,Option.getD_some,e] at this
 rw[this];decide
theorem any_hit {p:Int→Bool} {cs:List Int} {j:Nat} (hj:j<cs.length) (h:p (cs[j]?.getD 0)=true):cs.any p=true:=by
 rw[List.getElem?_eq_getElem hj,Option.getD_some] at h
 exact List.any_eq_true.2 ⟨_,List.getElem_mem hj,h⟩
theorem rlsym_c (r:Int) (C:Nat) (a:Option Addr) (n c:Nat) (cs:List Int) (low:Int) (w:World) (h:IC w a n cs) (hC:1≤C) (hn:n≤65536) :
  Calls Tryz.prog 100 #[.agg #[.int .i64 r,.int .i64 (C:Int),.slice a n c],.int .i64 low] w fun e w'=>e = .returned (.int .i64 (symE low C cs))∧Below w.heap.size w w':=by
 have hm:=h.small
 go_enter Tryz.func100,Tryz.ntmps100
 go_wp2_with fail
 have fB:Below w.heap.size w (w.alloc (.cells #[.int .i64 r,.int .i64 (C:Int),.slice a n c] 24)):=(Below.refl _ _).alloc (Nat.le_refl _) _
 have FQ:Hid ((w.alloc (.cells #[.int .i64 r,.int .i64 (C:Int),.slice a n c] 24)).heap[w.heap.size]?=some (.cells #[.int .i64 r,.int .i64 (C:Int),.slice a n c] 24 (0,0))):=World.alloc_heap_new _ _
 generalize (w.alloc (.cells #[.int .i64 r,.int .i64 (C:Int),.slice a n c] 24))=W0 at fB FQ ⊢
 obtain ⟨x0,x1,x2,xl⟩:=c3_of FQ.out
 have h0:=h.mono fB
 have HL:=Lib.hid h.len
 have HT:=Lib.hid (fun W (hb:Below W0.heap.size W0 W)=>rtwice_c r C a n c cs W (h0.mono hb) hC hn)
 clear h
 go_loopw [5] (fun s5 wr=>∃k:Nat,k≤n∧s5 = .int .i64 k∧Hid (∀j,j<k→(decide (cs[j]?.getD 0<low)||decide ((C:Int)≤cs[j]?.getD 0))=false)∧Below W0.heap.size W0 wr) (fun s5 _=>n - (intOf s5).toNat)
 case atStart=>exact ⟨0,by omega,rfl,fun j hj=>absurd hj (by omega),Below.refl _ _⟩
 case round =>
  obtain ⟨k,hk,rfl,hn1,hbr⟩:=hrel
  clear x0 x1 x2 xl
  obtain ⟨x0,x1,x2,xl⟩:=c3_of (keepq hbr FQ.out)
  by_cases hlt:k<n
  ·obtain ⟨b,off,rfl,hb,hc⟩:=(h0.mono hbr).2 k hlt
   have hki:(k:Int)<(n:Int):=by omega
   have HN:=Lib.hid (fun e=>upB_snoc (f:=fun j=>decide (cs[j]?.getD 0<low)||decide ((C:Int)≤cs[j]?.getD 0)) hn1.out e)
   have HE:=Lib.hid (fun e=>any_hit (p:=fun x=>decide (x<low)||decide ((C:Int)≤x)) (cs:=cs) (j:=k) (by rw[HL.out];exact hlt) e)
   obtain ⟨x,hx⟩:∃x,x=cs[k]?.getD 0:=⟨_,rfl⟩
   rw[← hx] at hc HN HE
   clear hx
   obtain ⟨t1,ht1⟩:∃t,t=decide (x<low):=⟨_,rfl⟩
   obtain ⟨t2,ht2⟩:∃t,t=decide ((C:Int)≤x):=⟨_,rfl⟩
   rw[← ht1,← ht2] at HN HE
   replace ht1:=ht1.symm
   replace ht2:decide (x≥(C:Int))=t2:=ht2.symm
   go_wp2_with fail
   cases t1 with
   | true =>
    refine wp_region_S (fun w'=>∃u,w'=over (wr) u) [] [(0,0),(0,1),(0,2),(0,3),(0,4),(0,5),(0,6),(0,7),(0,8),(0,9),(0,10),(0,11),(0,12),(0,13),(0,14),(0,15),(0,16)] (by kernel_rfl) (by kernel_rfl) (by exact ⟨_,below_over (by repeat (first|assumption|exact Below.refl _ _|refine keep_drew ?_|refine keep_alloc ?_ _|refine keep_trans ?_ (by assumption)))⟩) ?_
    dsimp only[pickOps,nthOp]
    repeat (first|(refine wpS_skip rfl (fun K hK=>?_);go_big_quiet_op;refine hK _ ?_;clear hK K)|(refine wpS_quiet rfl rfl (fun K hK=>?_);go_big_quiet_op;refine hK _ ?_;clear hK K))
    refine wpS_end ?_
    go_wp2_with fail
    go_ret
    exact ⟨ret_int (by unfold symE;rw[if_pos (HE.out rfl)]),(fB.trans (hbr.mono fB.size)).drew⟩
   | false =>
    cases t2 with
    | true =>
     refine wp_region_S (fun w'=>∃u,w'=over (wr) u) [] [(0,0),(0,1),(0,2),(0,3),(0,4),(0,5),(0,6),(0,7),(0,8),(0,9),(0,10),(0,11),(0,12),(0,13),(0,14),(0,15),(0,16)] (by kernel_rfl) (by kernel_rfl) (by exact ⟨_,below_over (by repeat (first|assumption|exact Below.refl _ _|refine keep_drew ?_|refine keep_alloc ?_ _|refine keep_trans ?_ (by assumption)))⟩) ?_
     dsimp only[pickOps,nthOp]
     repeat (first|(refine wpS_skip rfl (fun K hK=>?_);go_big_quiet_op;refine hK _ ?_;clear hK K)|(refine wpS_quiet rfl rfl (fun K hK=>?_);go_big_quiet_op;refine hK _ ?_;clear hK K))
     refine wpS_end ?_
     go_wp2_with fail
     go_ret
     exact ⟨ret_int (by unfold symE;rw[if_pos (HE.out rfl)]),(fB.trans (hbr.mono fB.size)).drew⟩
    | false =>
     refine wp_region_S (fun w'=>∃u,w'=over (wr) u) [] [(0,0),(0,1),(0,2),(0,3),(0,4),(0,5),(0,6),(0,7),(0,8),(0,9),(0,10),(0,11),(0,12),(0,13),(0,14),(0,15),(0,16)] (by kernel_rfl) (by kernel_rfl) (by exact ⟨_,below_over (by repeat (first|assumption|exact Below.refl _ _|refine keep_drew ?_|refine keep_alloc ?_ _|refine keep_trans ?_ (by assumption)))⟩) ?_
     dsimp only[pickOps,nthOp]
     repeat (first|(refine wpS_skip rfl (fun K hK=>?_);go_big_quiet_op;refine hK _ ?_;clear hK K)|(refine wpS_quiet rfl rfl (fun K hK=>?_);go_big_quiet_op;refine hK _ ?_;clear hK K))
     refine wpS_end ?_
     go_wp2_with fail
     go_roundw
     case rel=>exact ⟨k+1,by omega,by go_num,HN.out rfl,hbr.drew⟩
     case measure=>simp[intOf];omega
  ·have e:k=n:=by omega
   subst e
   have HA:Hid ((cs.any fun x=>decide (x<low)||decide ((C:Int)≤x))=false):=any_upto (by rw[HL.out];exact hn1.out)
   have HE:Hid (symE low C cs=if twiceB C cs=true then 17 else 0):=by
    unfold Hid symE
    rw[if_neg (by rw[HA.out];decide)]
   generalize twiceB C cs=t at HT HE
   cases t with
   | true =>
    go_wp2_with (first|(go_at_call 157;refine (HT.out _ hbr).mono ?_;rintro _ w1 ⟨rfl,hb1⟩))
    go_ret
    exact ⟨ret_int HE.out.symm,keep_trans (fB.trans (hbr.mono fB.size)) hb1⟩
   | false =>
    go_wp2_with (first|(go_at_call 157;refine (HT.out _ hbr).mono ?_;rintro _ w1 ⟨rfl,hb1⟩))
    go_ret
    exact ⟨ret_int HE.out.symm,keep_trans (fB.trans (hbr.mono fB.size)) hb1⟩
theorem sq_wrap {N:Nat} (h:N≤16):wrap64 ((N:Int)*(N:Int))=((N*N:Nat):Int):=by
 rw[← Int.natCast_mul]
 have h1:N*N≤16*16:=Nat.mul_le_mul h h
 generalize N*N=q at h1 ⊢
 unfold wrap64
 omega
theorem rissq_c (r C:Int) (a:Option Addr) (n c:Nat) (cs:List Int) (w:World) (h:IC w a n cs) :
  Calls Tryz.prog 99 #[.agg #[.int .i64 r,.int .i64 C,.slice a n c]] w fun e w'=>e = .returned (.bool (sqB r C cs))∧Below w.heap.size w w':=by
 have hm:=h.small
 have hlen:=h.len
 clear h
 by_cases hrc:r=C
 ·subst hrc
  have hq:(r==r)=true:=by simp
  by_cases h1:1≤r
  ·have hd1:decide (r≥1)=true:=decide_eq_true h1
   by_cases h2:r≤16
   ·have hd2:decide (r≤16)=true:=decide_eq_true h2
    obtain ⟨N,rfl⟩:=Int.eq_ofNat_of_zero_le (show 0≤r by omega)
    have HE:Hid (sqB (N:Int) (N:Int) cs=((n:Int)==wrap64 ((N:Int)*(N:Int)))):=by
     unfold Hid sqB
     rw[sq_wrap (by omega),hlen,← Int.natCast_mul,hd2,show decide ((1:Int)≤(N:Int))=true from decide_eq_true h1,decide_eq_true rfl,Bool.true_and,Bool.true_and,Bool.true_and,Bool.eq_iff_iff,decide_eq_true_eq,beq_iff_eq]
    clear hlen
    go_enter Tryz.func99,Tryz.ntmps99
    go_wp2_with fail
    have fB:Below w.heap.size w (w.alloc (.cells #[.int .i64 (N:Int),.int .i64 (N:Int),.slice a n c] 24)):=(Below.refl _ _).alloc (Nat.le_refl _) _
    have FQ:Hid ((w.alloc (.cells #[.int .i64 (N:Int),.int .i64 (N:Int),.slice a n c] 24)).heap[w.heap.size]?=some (.cells #[.int .i64 (N:Int),.int .i64 (N:Int),.slice a n c] 24 (0,0))):=World.alloc_heap_new _ _
    generalize (w.alloc (.cells #[.int .i64 (N:Int),.int .i64 (N:Int),.slice a n c] 24))=W0 at fB FQ ⊢
    obtain ⟨x0,x1,x2,xl⟩:=c3_of FQ.out
    go_wp2_with fail
    go_ret
    exact ⟨ret_bool HE.out.symm,fB⟩
   ·have hd2:decide (r≤16)=false:=decide_eq_false h2
    have HE:Hid (sqB r r cs=false):=by
     unfold Hid sqB
     rw[hd2];simp
    clear hlen
    go_enter Tryz.func99,Tryz.ntmps99
    go_wp2_with fail
    have fB:Below w.heap.size w (w.alloc (.cells #[.int .i64 r,.int .i64 r,.slice a n c] 24)):=(Below.refl _ _).alloc (Nat.le_refl _) _
    have FQ:Hid ((w.alloc (.cells #[.int .i64 r,.int .i64 r,.slice a n c] 24)).heap[w.heap.size]?=some (.cells #[.int .i64 r,.int .i64 r,.slice a n c] 24 (0,0))):=World.alloc_heap_new _ _
    generalize (w.alloc (.cells #[.int .i64 r,.int .i64 r,.slice a n c] 24))=W0 at fB FQ ⊢
    obtain ⟨x0,x1,x2,xl⟩:=c3_of FQ.out
    go_wp2_with fail
    go_ret
    exact ⟨ret_bool HE.out.symm,fB⟩
  ·have hd1:decide (r≥1)=false:=decide_eq_false h1
   have HE:Hid (sqB r r cs=false):=by
    unfold Hid sqB
    rw[show decide (1≤r)=false from hd1];simp
   clear hlen
   go_enter Tryz.func99,Tryz.ntmps99
   go_wp2_with fail
   have fB:Below w.heap.size w (w.alloc (.cells #[.int .i64 r,.int .i64 r,.slice a n c] 24)):=(Below.refl _ _).alloc (Nat.le_refl _) _
   have FQ:Hid ((w.alloc (.cells #[.int .i64 r,.int .i64 r,.slice a n c] 24)).heap[w.heap.size]?=some (.cells #[.int .i64 r,.int .i64 r,.slice a n c] 24 (0,0))):=World.alloc_heap_new _ _
   generalize (w.alloc (.cells #[.int .i64 r,.int .i64 r,.slice a n c] 24))=W0 at fB FQ ⊢
   obtain ⟨x0,x1,x2,xl⟩:=c3_of FQ.out
   go_wp2_with fail
   go_ret
   exact ⟨ret_bool HE.out.symm,fB⟩
 ·have hq:(r==C)=false:=by simpa using hrc
  have HE:Hid (sqB r C cs=false):=by
   unfold Hid sqB
   rw[decide_eq_false hrc];simp
  clear hlen
  go_enter Tryz.func99,Tryz.ntmps99
  go_wp2_with fail
  have fB:Below w.heap.size w (w.alloc (.cells #[.int .i64 r,.int .i64 C,.slice a n c] 24)):=(Below.refl _ _).alloc (Nat.le_refl _) _
  have FQ:Hid ((w.alloc (.cells #[.int .i64 r,.int .i64 C,.slice a n c] 24)).heap[w.heap.size]?=some (.cells #[.int .i64 r,.int .i64 C,.slice a n c] 24 (0,0))):=World.alloc_heap_new _ _
  generalize (w.alloc (.cells #[.int .i64 r,.int .i64 C,.slice a n c] 24))=W0 at fB FQ ⊢
  obtain ⟨x0,x1,x2,xl⟩:=c3_of FQ.out
  go_wp2_with fail
  go_ret
  exact ⟨ret_bool HE.out.symm,fB⟩
theorem sqB_dims {r C:Int} {cs:List Int} (h:sqB r C cs=true):∃N:Nat,r=(N:Int)∧C=(N:Int)∧1≤N∧N≤16∧cs.length=N*N:=by
 unfold sqB at h
 simp only[Bool.and_eq_true,decide_eq_true_eq] at h
 obtain ⟨⟨⟨h1,h2⟩,h3⟩,h4⟩:=h
 refine ⟨r.toNat,by omega,by omega,by omega,by omega,?_⟩
 subst h1
 obtain ⟨N,rfl⟩:=Int.eq_ofNat_of_zero_le (show 0≤r by omega)
 rw[← Int.natCast_mul] at h4
 rw[show ((N:Int)).toNat=N from rfl]
 exact Int.ofNat.inj h4
theorem rcheck_c (r C:Int) (a:Option Addr) (n c:Nat) (cs:List Int) (w:World) (h:IC w a n cs) :
  Calls Tryz.prog 22 #[.agg #[.int .i64 r,.int .i64 C,.slice a n c]] w fun e w'=>e = .returned (.int .i64 (sqE 0 r C cs))∧Below w.heap.size w w':=by
 have HI:=Lib.hid (fun W (hb:Below w.heap.size w W)=>rissq_c r C a n c cs W (h.mono hb))
 cases hq:sqB r C cs with
 | false =>
  have HE:Hid (sqE 0 r C cs=2):=by unfold Hid sqE;rw[hq];rfl
  rw[hq] at HI
  clear hq h
  go_enter Tryz.func22,Tryz.ntmps22
  go_wp2_with fail
  have fB:Below w.heap.size w (w.alloc (.cells #[.int .i64 r,.int .i64 C,.slice a n c] 24)):=(Below.refl _ _).alloc (Nat.le_refl _) _
  have FQ:Hid ((w.alloc (.cells #[.int .i64 r,.int .i64 C,.slice a n c] 24)).heap[w.heap.size]?=some (.cells #[.int .i64 r,.int .i64 C,.slice a n c] 24 (0,0))):=World.alloc_heap_new _ _
  generalize (w.alloc (.cells #[.int .i64 r,.int .i64 C,.slice a n c] 24))=W0 at fB FQ ⊢
  obtain ⟨x0,x1,x2,xl⟩:=c3_of FQ.out
  go_wp2_with (first|(go_at_call 99;refine (HI.out _ fB).mono ?_;rintro _ w1 ⟨rfl,hb1⟩))
  go_ret
  exact ⟨ret_int HE.out.symm,keep_trans fB hb1⟩
 | true =>
  obtain ⟨N,rfl,rfl,hN1,hN2,hl⟩:=sqB_dims hq
  have HE:Hid (sqE 0 (N:Int) (N:Int) cs=symE 0 N cs):=by unfold Hid sqE;rw[hq];rfl
  have hn2:n≤65536:=by
   rw[← h.len,hl]
   exact Nat.le_trans (Nat.mul_le_mul hN2 hN2) (by decide)
  have HS:=Lib.hid (fun W (hb:Below w.heap.size w W)=>rlsym_c (N:Int) N a n c cs (0) W (h.mono hb) hN1 hn2)
  rw[hq] at HI
  clear hq h hl
  go_enter Tryz.func22,Tryz.ntmps22
  go_wp2_with fail
  have fB:Below w.heap.size w (w.alloc (.cells #[.int .i64 (N:Int),.int .i64 (N:Int),.slice a n c] 24)):=(Below.refl _ _).alloc (Nat.le_refl _) _
  have FQ:Hid ((w.alloc (.cells #[.int .i64 (N:Int),.int .i64 (N:Int),.slice a n c] 24)).heap[w.heap.size]?=some (.cells #[.int .i64 (N:Int),.int .i64 (N:Int),.slice a n c] 24 (0,0))):=World.alloc_heap_new _ _
  generalize (w.alloc (.cells #[.int .i64 (N:Int),.int .i64 (N:Int),.slice a n c] 24))=W0 at fB FQ ⊢
  obtain ⟨x0,x1,x2,xl⟩:=c3_of FQ.out
  go_wp2_with (first|(go_at_call 99;refine (HI.out _ fB).mono ?_;rintro _ w1 ⟨rfl,hb1⟩;clear x0 x1 x2 xl;obtain ⟨x0,x1,x2,xl⟩:=c3_of (keepq hb1 FQ.out))|(go_at_call 100;refine (HS.out _ (keep_trans fB hb1)).mono ?_;rintro _ w2 ⟨rfl,hb2⟩))
  go_ret
  exact ⟨ret_int HE.out.symm,keep_trans (keep_trans fB hb1) hb2⟩
end
section
def Ortho (cs ds:List Int):Prop:=∀c d,c<d→d<cs.length→pairEq cs ds c d=false
theorem meetAt_none {cs ds:List Int} {d:Nat}:meetAt cs ds d=none↔∀c,c<d→pairEq cs ds c d=false:=by
 unfold meetAt
 rw[List.find?_eq_none]
 constructor
 ·intro h c hc;have:=h c (List.mem_range.2 hc);simpa using this
 ·intro h c hc;rw[List.mem_range] at hc;rw[h c hc];decide
theorem meetR_none {cs ds:List Int}:meetR cs ds=none↔Ortho cs ds:=by
 unfold meetR
 rw[List.findSome?_eq_none_iff]
 constructor
 ·intro h c d hc hd
  have h1:=h d (List.mem_range.2 hd)
  rw[Option.map_eq_none_iff,meetAt_none] at h1
  exact h1 c hc
 ·intro h d hd
  rw[List.mem_range] at hd
  rw[Option.map_eq_none_iff,meetAt_none]
  exact fun c hc=>h c d hc hd
theorem Latin.row {n:Nat} {cs:List Int} (L:Latin n cs) {i:Nat} (hi:i<n) {x:Int} (h0:0≤x) (h1:x<(n:Int)):∃j,j<n∧cs[i*n+j]?.getD 0=x:=by
 have ho:=once_iff.1 L.once
 have hm:=full_mem (n:=n) (l:=(List.range n).map fun j=>cs[i*n+j]?.getD 0) (by
  rw[List.nodup_iff_pairwise_ne,List.pairwise_map]
  refine (List.pairwise_lt_range (n:=n)).imp_of_mem (fun {a b} ha hb hab e=>?_)
  rw[List.mem_range] at ha hb
  have h2:=ho (i*n+a) (i*n+b) (by rw[L.len];exact gcell_lt hi ha) (by rw[L.len];exact gcell_lt hi hb) (by omega) (by unfold lineB;rw[(gcell_div ha).1,(gcell_div hb).1];simp) e
  have h3:=L.get (gcell_lt hi ha)
  omega) (by rw[List.length_map,List.length_range]) (fun y hy=>by
  obtain ⟨j,hj,e⟩:=List.mem_map.1 hy
  rw[← e]
  exact L.get (gcell_lt hi (List.mem_range.1 hj))) h0 h1
 obtain ⟨j,hj,e⟩:=List.mem_map.1 hm
 exact ⟨j,List.mem_range.1 hj,e⟩
end
section
theorem gcd_step (a b:Int):Int.gcd b (a.tmod b)=Int.gcd a b:=by
 unfold Int.gcd
 rw[Int.natAbs_tmod,Nat.gcd_comm b.natAbs,← Nat.gcd_rec,Nat.gcd_comm]
theorem gcd_emod (a:Int) (n:Int):Int.gcd (a % n) n=Int.gcd a n:=by
 rw[Int.gcd_comm,Int.gcd_comm a n]
 conv=>rhs;rw[← Int.emod_add_mul_ediv a n]
 exact (Int.gcd_add_mul_left_right n (a % n) (a / n)).symm
end
end Go.Proofs.YtmfpdakaeagdpaaGreat
