/- Texts J108 to J110 of this proof, in one file. -/
import Derived.Test.YtmfpdakaeagdpaaGreatW01
import Derived.Test.YtmfpdakaeagdpaaGreatW02
import Derived.Test.YtmfpdakaeagdpaaGreatW03
import Derived.Test.YtmfpdakaeagdpaaGreatW04
import Derived.Test.YtmfpdakaeagdpaaGreatW05
import Derived.Test.YtmfpdakaeagdpaaGreatW06
import Derived.Test.YtmfpdakaeagdpaaGreatW07
import Derived.Test.YtmfpdakaeagdpaaGreatW08
import Derived.Test.YtmfpdakaeagdpaaGreatW09
import Derived.Test.YtmfpdakaeagdpaaGreatW10
import Derived.Test.YtmfpdakaeagdpaaGreatW11
import Derived.Test.YtmfpdakaeagdpaaGreatW12
import Derived.Test.YtmfpdakaeagdpaaGreatW13
import Derived.Test.YtmfpdakaeagdpaaGreatW14
import Derived.Test.YtmfpdakaeagdpaaGreatW15
import Derived.Test.YtmfpdakaeagdpaaGreatW16
import Derived.Test.YtmfpdakaeagdpaaGreatW17
import Derived.Test.YtmfpdakaeagdpaaGreatW18
import Derived.Test.YtmfpdakaeagdpaaGreatW19
import Derived.Test.YtmfpdakaeagdpaaGreatW20
import Derived.Test.YtmfpdakaeagdpaaGreatW21
import Derived.Test.YtmfpdakaeagdpaaGreatW22
import Derived.Test.YtmfpdakaeagdpaaGreatW23
import Derived.Test.YtmfpdakaeagdpaaGreatW24
import Derived.Test.YtmfpdakaeagdpaaGreatW25
import Derived.Test.YtmfpdakaeagdpaaGreatW26
import Derived.Test.YtmfpdakaeagdpaaGreatW27
import Derived.Test.YtmfpdakaeagdpaaGreatX19n01
import Derived.Below
import Derived.BigFrame
import Derived.BigQuiet
import Derived.Deep.CutBlock
import Derived.Deep.CutRange
import Derived.Deep.LoopGhost
import Derived.Deep.Quiet
import Derived.Deep.RegionHeld3
import Derived.DeepKeys4
import Derived.KernelRfl
import Derived.Laws.BitsAllLaws
import Derived.Laws.EntriesVeiled
import Derived.Lib.Hide
import Derived.Lib.SliceRun
import Derived.LoopIn
import Derived.LoopNIn
import Derived.Maps.AppendAt
import Derived.Maps.OwnIn
import Derived.Maps.OwnSet
import Derived.OneCell
import Derived.OrdersHeld
import Derived.OrdersIn
import Derived.OwnWalkIn
import Derived.RangeFuncBound
import Derived.RangeFuncCalls
import Derived.RangeFuncLeaves
import Derived.RangeFuncNested
import Derived.Shelf.Abstract
import Derived.Still
import Derived.TacticsIn
import Derived.TacticsInMore
import Derived.Test.YtmfpdakaeagdpaaGreatProg
import Derived.WalkKit
import Derived.WalkLawsBesides
import Derived.WalkSpells
import Derived.WideKeyPair
namespace Go.Proofs.YtmfpdakaeagdpaaGreat
set_option maxRecDepth 100000
set_option maxHeartbeats 16000000
section
open Go Go.RowKit
attribute [local go_sem] over_cell
attribute [local go_sem] Oper.semAt_some
def metB (n:Nat) (l m:List Int) (c d:Nat):Bool:=m[c]?.getD 0==m[d]?.getD 0&&(c / n==d / n||c % n==d % n||l[c]?.getD 0==l[d]?.getD 0)
theorem meetsB_hit {n:Nat} {l m:List Int} {c d:Nat} (hd:d<c) (h:metB n l m c d=true):meetsB n l m c=true:=by
 unfold meetsB
 exact List.any_eq_true.2 ⟨d,List.mem_range.2 hd,h⟩
theorem meetsB_none {n:Nat} {l m:List Int} {c:Nat} (h:∀d,d<c→metB n l m c d=false):meetsB n l m c=false:=by
 unfold meetsB
 exact List.any_eq_false.2 fun d hd=>by rw[show (m[c]?.getD 0==m[d]?.getD 0&&(c / n==d / n||c % n==d % n||l[c]?.getD 0==l[d]?.getD 0))=metB n l m c d from rfl,h d (List.mem_range.1 hd)];simp
theorem natInt_beq (a b:Nat):((a:Int)==(b:Int))=(a==b):=by
 rw[Bool.eq_iff_iff,beq_iff_eq,beq_iff_eq];exact Int.ofNat_inj
theorem rmts_c (N:Nat) (r C r2:Int) (a:Option Addr) (n ca:Nat) (l:List Int) (a2:Option Addr) (n2 c2:Nat) (m:List Int) (c:Nat) (w:World) (h:IC w a n l) (h2:IC w a2 n2 m) (hN1:1≤N) (hc:c<n) (hc2:c<n2) (hn:n≤65536) :
  Calls Tryz.prog 158 #[.agg #[.int .i64 r,.int .i64 C,.slice a n ca],.agg #[.int .i64 r2,.int .i64 (N:Int),.slice a2 n2 c2],.int .i64 (c:Int)] w fun e w'=>e = .returned (.bool (meetsB N l m c))∧Below w.heap.size w w':=by
 obtain ⟨R,hR⟩:∃R,R=meetsB N l m c:=⟨_,rfl⟩
 rw[← hR]
 have HR:=Lib.hid hR
 clear hR
 go_enter Tryz.func158,Tryz.ntmps158
 go_upto_region 1 with fail
 have fsz:((w.alloc (.cells #[.int .i64 r,.int .i64 C,.slice a n ca] 24)).alloc (.cells #[.int .i64 r2,.int .i64 (N:Int),.slice a2 n2 c2] 24)).heap.size=w.heap.size+2:=by simp only[World.size_alloc] <;> omega
 have fB:Below w.heap.size w ((w.alloc (.cells #[.int .i64 r,.int .i64 C,.slice a n ca] 24)).alloc (.cells #[.int .i64 r2,.int .i64 (N:Int),.slice a2 n2 c2] 24)):=((Below.refl _ _).alloc (Nat.le_refl _) _).alloc (by simp only[World.size_alloc];omega) _
 have fq0:((w.alloc (.cells #[.int .i64 r,.int .i64 C,.slice a n ca] 24)).alloc (.cells #[.int .i64 r2,.int .i64 (N:Int),.slice a2 n2 c2] 24)).heap[w.heap.size]?=some (.cells #[.int .i64 r,.int .i64 C,.slice a n ca] 24 (0,0)):=by have h:=World.alloc_heap_new w (.cells #[.int .i64 r,.int .i64 C,.slice a n ca] 24);exact (Below.heap_alloc _ _ _ (by simp only[World.size_alloc];omega)).trans (h)
 have fq1:((w.alloc (.cells #[.int .i64 r,.int .i64 C,.slice a n ca] 24)).alloc (.cells #[.int .i64 r2,.int .i64 (N:Int),.slice a2 n2 c2] 24)).heap[w.heap.size+1]?=some (.cells #[.int .i64 r2,.int .i64 (N:Int),.slice a2 n2 c2] 24 (0,0)):=by have h:=World.alloc_heap_new (w.alloc (.cells #[.int .i64 r,.int .i64 C,.slice a n ca] 24)) (.cells #[.int .i64 r2,.int .i64 (N:Int),.slice a2 n2 c2] 24);simp only[World.size_alloc] at h;exact h
 generalize ((w.alloc (.cells #[.int .i64 r,.int .i64 C,.slice a n ca] 24)).alloc (.cells #[.int .i64 r2,.int .i64 (N:Int),.slice a2 n2 c2] 24))=W0 at fsz fB fq0 fq1 ⊢
 have H1:=Lib.hid (h.mono fB)
 have H2:=Lib.hid (h2.mono fB)
 have Q0:=Lib.hid fq0
 have Q1:=Lib.hid fq1
 have FB:=Lib.hid fB
 clear fq0 fq1 fB fsz h h2
 obtain ⟨b,off,rfl,hb,hcl⟩:=H1.out.2 c hc
 obtain ⟨b2,off2,rfl,hb2,hcm⟩:=H2.out.2 c hc2
 have hci:(c:Int)<(n:Int):=by omega
 have hci2:(c:Int)<(n2:Int):=by omega
 have hne:(N:Int)≠0:=by omega
 have e1:(c:Int) / (N:Int)=((c / N:Nat):Int):=(Int.natCast_ediv _ _).symm
 have e2:(c:Int) % (N:Int)=((c % N:Nat):Int):=(Int.natCast_emod _ _).symm
 have d1:c / N≤c:=Nat.div_le_self _ _
 have HM:Hid (∀d,metB N l m c d=(m[c]?.getD 0==m[d]?.getD 0&&(((c / N:Nat):Int)==((d / N:Nat):Int)||((c % N:Nat):Int)==((d % N:Nat):Int)||l[c]?.getD 0==l[d]?.getD 0))):=fun d=>by rw[natInt_beq,natInt_beq];rfl
 generalize c / N=q at e1 d1 HM
 generalize c % N=s at e2 HM
 generalize m[c]?.getD 0=mc at hcm HM
 generalize l[c]?.getD 0=lc at hcl HM
 go_wp2_with fail
 go_loopw [7] (fun s7 wr=>∃d:Nat,d≤c∧s7 = .int .i64 (d:Int)∧Hid (∀i,i<d→metB N l m c i=false)∧Below W0.heap.size W0 wr) (fun s7 _=>c - (intOf s7).toNat)
 case atStart=>exact ⟨0,by omega,rfl,fun i hi=>absurd hi (by omega),Below.refl _ _⟩
 case round =>
  obtain ⟨d,hd,rfl,hp,hbr⟩:=hrel
  obtain ⟨x0,x1,x2,xl⟩:=c3_of (keepq hbr Q0.out)
  obtain ⟨y0,y1,y2,yl⟩:=c3_of (keepq hbr Q1.out)
  by_cases hlt:d<c
  ·have hdi:(d:Int)<(c:Int):=by omega
   have hdn:(d:Int)<(n:Int):=by omega
   have hdn2:(d:Int)<(n2:Int):=by omega
   obtain ⟨_,_,z1,_,hdl⟩:=H1.out.2 d (by omega)
   cases z1
   obtain ⟨_,_,z2,_,hdm⟩:=H2.out.2 d (by omega)
   cases z2
   have g1:=((bcell hbr).1 _ _ hb).trans hcl
   have g2:=((bcell hbr).1 _ _ hb2).trans hcm
   have g3:=((bcell hbr).1 _ _ hb).trans hdl
   have g4:=((bcell hbr).1 _ _ hb2).trans hdm
   have hl1:=Nat.lt_of_lt_of_le hb hbr.size
   have hl2:=Nat.lt_of_lt_of_le hb2 hbr.size
   have e3:(d:Int) / (N:Int)=((d / N:Nat):Int):=(Int.natCast_ediv _ _).symm
   have e4:(d:Int) % (N:Int)=((d % N:Nat):Int):=(Int.natCast_emod _ _).symm
   have d2:d / N≤d:=Nat.div_le_self _ _
   have HE:=Lib.hid (HM.out d)
   generalize d / N=q2 at e3 d2 HE
   generalize d % N=s2 at e4 HE
   generalize m[d]?.getD 0=md at g4 HE
   generalize l[d]?.getD 0=ld at g3 HE
   obtain ⟨b1,t1⟩:∃b1,(mc==md)=b1:=⟨_,rfl⟩
   obtain ⟨b3,t2⟩:∃b3,((q:Int)==(q2:Int))=b3:=⟨_,rfl⟩
   obtain ⟨b4,t3⟩:∃b4,((s:Int)==(s2:Int))=b4:=⟨_,rfl⟩
   obtain ⟨b5,t4⟩:∃b5,(lc==ld)=b5:=⟨_,rfl⟩
   rw[t1,t2,t3,t4] at HE
   clear hdl hdm
   cases b1 with
   | false =>
    have HN:Hid (∀i,i<d+1→metB N l m c i=false):=fun i hi=>by
     by_cases e:i=d
     ·rw[e,HE.out];rfl
     ·exact hp.out i (by omega)
    go_wp2_with fail
    refine wp_region_S (fun w'=>∃u,w'=over (wr) u) [] [(0,0),(0,1),(0,2),(0,3),(0,4),(0,5),(0,6),(0,7),(0,8),(0,9),(0,10),(0,11),(0,12),(0,13),(0,14),(0,15),(0,16),(0,17),(0,18),(0,19),(0,20),(0,21),(0,22),(0,23),(0,24),(0,25),(0,26),(0,27),(0,28),(0,29),(0,30),(0,31),(0,32),(0,33),(0,34),(0,35),(0,36),(0,37),(0,38),(0,39),(0,40),(0,41),(0,42),(0,43),(0,44),(0,45)] (by kernel_rfl) (by kernel_rfl) (by exact ⟨_,below_over (by repeat (first|assumption|exact Below.refl _ _|refine keep_drew ?_|refine keep_alloc ?_ _|refine keep_trans ?_ (by assumption)))⟩) ?_
    dsimp only[pickOps,nthOp]
    repeat (first|(refine wpS_skip rfl (fun K hK=>?_);go_big_quiet_op;refine hK _ ?_;clear hK K)|(refine wpS_quiet rfl rfl (fun K hK=>?_);go_big_quiet_op;refine hK _ ?_;clear hK K))
    refine wpS_end ?_
    go_wp2_with fail
    go_roundw
    case rel=>exact ⟨d+1,by omega,by go_num,HN,hbr.drew⟩
    case measure=>simp[intOf];omega
   | true =>
    cases b3 with
    | true =>
     have HY:Hid (R=true):=by unfold Hid;rw[HR.out];exact meetsB_hit hlt (by rw[HE.out];rfl)
     go_wp2_with fail
     refine wp_region_S (fun w'=>∃u,w'=over (wr) u) [] [(0,0),(0,1),(0,2),(0,3),(0,4),(0,5),(0,6),(0,7),(0,8),(0,9),(0,10),(0,11),(0,12),(0,13),(0,14),(0,15),(0,16),(0,17),(0,18),(0,19),(0,20),(0,21),(0,22),(0,23),(0,24),(0,25),(0,26),(0,27),(0,28),(0,29),(0,30),(0,31),(0,32),(0,33),(0,34),(0,35),(0,36),(0,37),(0,38),(0,39),(0,40),(0,41),(0,42),(0,43),(0,44),(0,45)] (by kernel_rfl) (by kernel_rfl) (by exact ⟨_,below_over (by repeat (first|assumption|exact Below.refl _ _|refine keep_drew ?_|refine keep_alloc ?_ _|refine keep_trans ?_ (by assumption)))⟩) ?_
     dsimp only[pickOps,nthOp]
     repeat (first|(refine wpS_skip rfl (fun K hK=>?_);go_big_quiet_op;refine hK _ ?_;clear hK K)|(refine wpS_quiet rfl rfl (fun K hK=>?_);go_big_quiet_op;refine hK _ ?_;clear hK K))
     refine wpS_end ?_
     go_wp2_with fail
     refine bodyPost_ret (v := .bool true) ?_ rfl ⟨by rw[HY.out],keep_trans FB.out hbr.drew⟩
     simp[results,Tryz.f158,go_sem]
    | false =>
     cases b4 with
     | true =>
      have HY:Hid (R=true):=by unfold Hid;rw[HR.out];exact meetsB_hit hlt (by rw[HE.out];rfl)
      go_wp2_with fail
      refine wp_region_S (fun w'=>∃u,w'=over (wr) u) [] [(0,0),(0,1),(0,2),(0,3),(0,4),(0,5),(0,6),(0,7),(0,8),(0,9),(0,10),(0,11),(0,12),(0,13),(0,14),(0,15),(0,16),(0,17),(0,18),(0,19),(0,20),(0,21),(0,22),(0,23),(0,24),(0,25),(0,26),(0,27),(0,28),(0,29),(0,30),(0,31),(0,32),(0,33),(0,34),(0,35),(0,36),(0,37),(0,38),(0,39),(0,40),(0,41),(0,42),(0,43),(0,44),(0,45)] (by kernel_rfl) (by kernel_rfl) (by exact ⟨_,below_over (by repeat (first|assumption|exact Below.refl _ _|refine keep_drew ?_|refine keep_alloc ?_ _|refine keep_trans ?_ (by assumption)))⟩) ?_
      dsimp only[pickOps,nthOp]
      repeat (first|(refine wpS_skip rfl (fun K hK=>?_);go_big_quiet_op;refine hK _ ?_;clear hK K)|(refine wpS_quiet rfl rfl (fun K hK=>?_);go_big_quiet_op;refine hK _ ?_;clear hK K))
      refine wpS_end ?_
      go_wp2_with fail
      refine bodyPost_ret (v := .bool true) ?_ rfl ⟨by rw[HY.out],keep_trans FB.out hbr.drew⟩
      simp[results,Tryz.f158,go_sem]
     | false =>
      cases b5 with
      | true =>
       have HY:Hid (R=true):=by unfold Hid;rw[HR.out];exact meetsB_hit hlt (by rw[HE.out];rfl)
       go_wp2_with fail
       refine wp_region_S (fun w'=>∃u,w'=over (wr) u) [] [(0,0),(0,1),(0,2),(0,3),(0,4),(0,5),(0,6),(0,7),(0,8),(0,9),(0,10),(0,11),(0,12),(0,13),(0,14),(0,15),(0,16),(0,17),(0,18),(0,19),(0,20),(0,21),(0,22),(0,23),(0,24),(0,25),(0,26),(0,27),(0,28),(0,29),(0,30),(0,31),(0,32),(0,33),(0,34),(0,35),(0,36),(0,37),(0,38),(0,39),(0,40),(0,41),(0,42),(0,43),(0,44),(0,45)] (by kernel_rfl) (by kernel_rfl) (by exact ⟨_,below_over (by repeat (first|assumption|exact Below.refl _ _|refine keep_drew ?_|refine keep_alloc ?_ _|refine keep_trans ?_ (by assumption)))⟩) ?_
       dsimp only[pickOps,nthOp]
       repeat (first|(refine wpS_skip rfl (fun K hK=>?_);go_big_quiet_op;refine hK _ ?_;clear hK K)|(refine wpS_quiet rfl rfl (fun K hK=>?_);go_big_quiet_op;refine hK _ ?_;clear hK K))
       refine wpS_end ?_
       go_wp2_with fail
       refine bodyPost_ret (v := .bool true) ?_ rfl ⟨by rw[HY.out],keep_trans FB.out hbr.drew⟩
       simp[results,Tryz.f158,go_sem]
      | false =>
       have HN:Hid (∀i,i<d+1→metB N l m c i=false):=fun i hi=>by
        by_cases e:i=d
        ·rw[e,HE.out];rfl
        ·exact hp.out i (by omega)
       go_wp2_with fail
       refine wp_region_S (fun w'=>∃u,w'=over (wr) u) [] [(0,0),(0,1),(0,2),(0,3),(0,4),(0,5),(0,6),(0,7),(0,8),(0,9),(0,10),(0,11),(0,12),(0,13),(0,14),(0,15),(0,16),(0,17),(0,18),(0,19),(0,20),(0,21),(0,22),(0,23),(0,24),(0,25),(0,26),(0,27),(0,28),(0,29),(0,30),(0,31),(0,32),(0,33),(0,34),(0,35),(0,36),(0,37),(0,38),(0,39),(0,40),(0,41),(0,42),(0,43),(0,44),(0,45)] (by kernel_rfl) (by kernel_rfl) (by exact ⟨_,below_over (by repeat (first|assumption|exact Below.refl _ _|refine keep_drew ?_|refine keep_alloc ?_ _|refine keep_trans ?_ (by assumption)))⟩) ?_
       dsimp only[pickOps,nthOp]
       repeat (first|(refine wpS_skip rfl (fun K hK=>?_);go_big_quiet_op;refine hK _ ?_;clear hK K)|(refine wpS_quiet rfl rfl (fun K hK=>?_);go_big_quiet_op;refine hK _ ?_;clear hK K))
       refine wpS_end ?_
       go_wp2_with fail
       go_roundw
       case rel=>exact ⟨d+1,by omega,by go_num,HN,hbr.drew⟩
       case measure=>simp[intOf];omega
  ·have e:d=c:=by omega
   have hno:¬(d:Int)<(c:Int):=by omega
   have HY:Hid (R=false):=by unfold Hid;rw[HR.out];exact meetsB_none (fun i hi=>hp.out i (by omega))
   clear e
   go_wp2_with fail
   refine bodyPost_ret (v := .bool false) ?_ rfl ⟨by rw[HY.out],keep_trans FB.out hbr⟩
   simp[results,Tryz.f158,go_sem]
end
section
open Go Go.RowKit
attribute [local go_sem] over_cell
attribute [local go_sem] Oper.semAt_some
def Agree (c:Nat) (m m':List Int):Prop:=∀i,i<c→m[i]?.getD 0=m'[i]?.getD 0
theorem agree_set {c x:Nat} {v:Int} {m m':List Int} (hl:c<m.length) (hl':c<m'.length) (h:Agree c m m') (_hx:x=x):Agree (c+1) (m.set c v) (m'.set c v):=fun i hi=>by
 rw[gset_get hl,gset_get hl']
 by_cases e:i=c
 ·rw[if_pos e,if_pos e]
 ·rw[if_neg e,if_neg e,h i (by omega)]
theorem meets_agree {n:Nat} {l m m':List Int} {c:Nat} (h:Agree (c+1) m m'):meetsB n l m c=meetsB n l m' c:=by
 unfold meetsB
 rw[Bool.eq_iff_iff,List.any_eq_true,List.any_eq_true]
 constructor
 ·rintro ⟨d,hd,h2⟩
  have hd2:=List.mem_range.1 hd
  rw[h c (by omega),h d (by omega)] at h2
  exact ⟨d,hd,h2⟩
 ·rintro ⟨d,hd,h2⟩
  have hd2:=List.mem_range.1 hd
  rw[← h c (by omega),← h d (by omega)] at h2
  exact ⟨d,hd,h2⟩
theorem findSome_congr {α:Type} {f g:Nat→Option α}:∀l:List Nat,(∀x,x∈l→f x=g x)→l.findSome? f=l.findSome? g
 | [],_=>rfl
 | x :: l,h=>by
  rw[List.findSome?_cons,List.findSome?_cons,h x List.mem_cons_self,findSome_congr l (fun y hy=>h y (List.mem_cons_of_mem _ hy))]
theorem mateR_agree {n:Nat} {l:List Int}:∀{f c:Nat} {m m':List Int},c+f=m.length→m'.length=m.length→Agree c m m'→mateR n l f c m=mateR n l f c m'
 | 0,c,m,m',hl,hl',h=>by
  unfold mateR
  have:m=m':=by
   apply List.ext_getElem hl'.symm
   intro i h1 h2
   have:=h i (by omega)
   rw[List.getElem?_eq_getElem h1,List.getElem?_eq_getElem h2,Option.getD_some,Option.getD_some] at this
   exact this
  rw[this]
 | f+1,c,m,m',hl,hl',h=>by
  unfold mateR
  refine findSome_congr _ fun x _=>?_
  have ha:=agree_set (v:=(x:Int)) (x:=0) (by omega) (by omega) h rfl
  rw[meets_agree ha,mateR_agree (f:=f) (c:=c+1) (by rw[List.length_set];omega) (by rw[List.length_set,List.length_set];exact hl') ha]
def RmR (nn B g cap c:Nat) (m:List Int) (W:World) (R:Option (List Int)) (e:Ending) (W':World):Prop :=
 match R with
 | some r=>e = .returned (.bool true)∧OI W' B g nn cap r∧Stays (fun k=>k=g) W W'
 | none=>e = .returned (.bool false)∧(∃m',OI W' B g nn cap m'∧Agree c m m')∧Stays (fun k=>k=g) W W'
def RmE (N nn B g cap f c:Nat) (l m:List Int) (W:World) (e:Ending) (W':World):Prop:=RmR nn B g cap c m W (mateR N l f c m) e W'
theorem RmE.yes {N nn B g cap f c:Nat} {l m r:List Int} {W:World} {e:Ending} {W':World} (h:mateR N l f c m=some r) (h2:e = .returned (.bool true)∧OI W' B g nn cap r∧Stays (fun k=>k=g) W W'):RmE N nn B g cap f c l m W e W':=by
 unfold RmE;rw[h];exact h2
theorem RmE.no {N nn B g cap f c:Nat} {l m:List Int} {W:World} {e:Ending} {W':World} (h:mateR N l f c m=none) (h2:e = .returned (.bool false)∧(∃m',OI W' B g nn cap m'∧Agree c m m')∧Stays (fun k=>k=g) W W'):RmE N nn B g cap f c l m W e W':=by
 unfold RmE;rw[h];exact h2
theorem rmate_c (N nn B g cap:Nat) (a:Option Addr) (ca:Nat) (l:List Int) (hN1:1≤N) (hN2:N≤256) (hmm:nn≤256) (hne:∀b off,a=some ⟨b,off,none⟩→b≠g):∀(f c:Nat) (m:List Int) (W:World),c+f=nn→OI W B g nn cap m→IC W a nn l →
  Calls Tryz.prog 102 #[.agg #[.int .i64 (N:Int),.int .i64 (N:Int),.slice a nn ca],.agg #[.int .i64 (N:Int),.int .i64 (N:Int),.slice (some ⟨g,0,none⟩) nn cap],.int .i64 (c:Int)] W (RmE N nn B g cap f c l m W):=by
 intro f
 induction f with
 | zero =>
  intro c m W hf hO _
  have HO:=Lib.hid hO
  have hE:((c:Int)==(nn:Int))=true:=by rw[show c=nn by omega];simp
  clear hO hf
  go_enter Tryz.func102,Tryz.ntmps102
  go_upto_region 1 with fail
  have fsz:((W.alloc (.cells #[.int .i64 (N:Int),.int .i64 (N:Int),.slice a nn ca] 24)).alloc (.cells #[.int .i64 (N:Int),.int .i64 (N:Int),.slice (some ⟨g,0,none⟩) nn cap] 24)).heap.size=W.heap.size+2:=by simp only[World.size_alloc] <;> omega
  have fB:Below W.heap.size W ((W.alloc (.cells #[.int .i64 (N:Int),.int .i64 (N:Int),.slice a nn ca] 24)).alloc (.cells #[.int .i64 (N:Int),.int .i64 (N:Int),.slice (some ⟨g,0,none⟩) nn cap] 24)):=((Below.refl _ _).alloc (Nat.le_refl _) _).alloc (by simp only[World.size_alloc];omega) _
  have fq0:((W.alloc (.cells #[.int .i64 (N:Int),.int .i64 (N:Int),.slice a nn ca] 24)).alloc (.cells #[.int .i64 (N:Int),.int .i64 (N:Int),.slice (some ⟨g,0,none⟩) nn cap] 24)).heap[W.heap.size]?=some (.cells #[.int .i64 (N:Int),.int .i64 (N:Int),.slice a nn ca] 24 (0,0)):=by have h:=World.alloc_heap_new W (.cells #[.int .i64 (N:Int),.int .i64 (N:Int),.slice a nn ca] 24);exact (Below.heap_alloc _ _ _ (by simp only[World.size_alloc];omega)).trans (h)
  have fq1:((W.alloc (.cells #[.int .i64 (N:Int),.int .i64 (N:Int),.slice a nn ca] 24)).alloc (.cells #[.int .i64 (N:Int),.int .i64 (N:Int),.slice (some ⟨g,0,none⟩) nn cap] 24)).heap[W.heap.size+1]?=some (.cells #[.int .i64 (N:Int),.int .i64 (N:Int),.slice (some ⟨g,0,none⟩) nn cap] 24 (0,0)):=by have h:=World.alloc_heap_new (W.alloc (.cells #[.int .i64 (N:Int),.int .i64 (N:Int),.slice a nn ca] 24)) (.cells #[.int .i64 (N:Int),.int .i64 (N:Int),.slice (some ⟨g,0,none⟩) nn cap] 24);simp only[World.size_alloc] at h;exact h
  generalize ((W.alloc (.cells #[.int .i64 (N:Int),.int .i64 (N:Int),.slice a nn ca] 24)).alloc (.cells #[.int .i64 (N:Int),.int .i64 (N:Int),.slice (some ⟨g,0,none⟩) nn cap] 24))=W0 at fsz fB fq0 fq1 ⊢
  obtain ⟨y0,y1,y2,yl⟩:=c3_of fq1
  clear fq0 fq1 fsz
  go_wp2_with fail
  refine bodyPost_ret (v := .bool true) ?_ rfl (RmE.yes rfl ⟨rfl,HO.out.keep fB,Below.stays fB _⟩)
  simp[results,Tryz.f102,go_sem]
 | succ f ih =>
  intro c m W hf hO hI
  have hE:((c:Int)==(nn:Int))=false:=by rw[beq_eq_false_iff_ne];omega
  have hcn:c<nn:=by omega
  have hci:(c:Int)<(nn:Int):=by omega
  have hgW:=hO.blk.2
  have HO:=Lib.hid hO
  have HI:=Lib.hid hI
  have HIH:=Lib.hid ih
  have hcf:c+1+f=nn:=by omega
  have hml:=hO.len
  have HML:=Lib.hid hml
  have HF:Hid (mateR N l (f+1) c m=(List.range N).findSome? fun (x:Nat)=>if meetsB N l (m.set c (x:Int)) c=true then none else mateR N l f (c+1) (m.set c (x:Int))):=rfl
  clear ih hO hI hf hml
  go_enter Tryz.func102,Tryz.ntmps102
  go_upto_region 1 with fail
  have fsz:((W.alloc (.cells #[.int .i64 (N:Int),.int .i64 (N:Int),.slice a nn ca] 24)).alloc (.cells #[.int .i64 (N:Int),.int .i64 (N:Int),.slice (some ⟨g,0,none⟩) nn cap] 24)).heap.size=W.heap.size+2:=by simp only[World.size_alloc] <;> omega
  have fB:Below W.heap.size W ((W.alloc (.cells #[.int .i64 (N:Int),.int .i64 (N:Int),.slice a nn ca] 24)).alloc (.cells #[.int .i64 (N:Int),.int .i64 (N:Int),.slice (some ⟨g,0,none⟩) nn cap] 24)):=((Below.refl _ _).alloc (Nat.le_refl _) _).alloc (by simp only[World.size_alloc];omega) _
  have fq0:((W.alloc (.cells #[.int .i64 (N:Int),.int .i64 (N:Int),.slice a nn ca] 24)).alloc (.cells #[.int .i64 (N:Int),.int .i64 (N:Int),.slice (some ⟨g,0,none⟩) nn cap] 24)).heap[W.heap.size]?=some (.cells #[.int .i64 (N:Int),.int .i64 (N:Int),.slice a nn ca] 24 (0,0)):=by have h:=World.alloc_heap_new W (.cells #[.int .i64 (N:Int),.int .i64 (N:Int),.slice a nn ca] 24);exact (Below.heap_alloc _ _ _ (by simp only[World.size_alloc];omega)).trans (h)
  have fq1:((W.alloc (.cells #[.int .i64 (N:Int),.int .i64 (N:Int),.slice a nn ca] 24)).alloc (.cells #[.int .i64 (N:Int),.int .i64 (N:Int),.slice (some ⟨g,0,none⟩) nn cap] 24)).heap[W.heap.size+1]?=some (.cells #[.int .i64 (N:Int),.int .i64 (N:Int),.slice (some ⟨g,0,none⟩) nn cap] 24 (0,0)):=by have h:=World.alloc_heap_new (W.alloc (.cells #[.int .i64 (N:Int),.int .i64 (N:Int),.slice a nn ca] 24)) (.cells #[.int .i64 (N:Int),.int .i64 (N:Int),.slice (some ⟨g,0,none⟩) nn cap] 24);simp only[World.size_alloc] at h;exact h
  generalize ((W.alloc (.cells #[.int .i64 (N:Int),.int .i64 (N:Int),.slice a nn ca] 24)).alloc (.cells #[.int .i64 (N:Int),.int .i64 (N:Int),.slice (some ⟨g,0,none⟩) nn cap] 24))=W0 at fsz fB fq0 fq1 ⊢
  have Q0:=Lib.hid fq0
  have Q1:=Lib.hid fq1
  have FB:=Lib.hid fB
  obtain ⟨y0,y1,y2,yl⟩:=c3_of fq1
  have hs0:W.heap.size+2=W0.heap.size:=fsz.symm
  clear fq0 fq1 fsz fB
  go_wp2_with fail
  go_loopw [7] (fun s7 wr=>∃(x:Nat) (mm:List Int),x≤N∧s7 = .int .i64 (x:Int)∧Hid (OI wr B g nn cap mm)∧Hid (Agree c m mm)∧Hid (∀y,y<x→(if meetsB N l (m.set c (y:Int)) c=true then none else mateR N l f (c+1) (m.set c (y:Int)))=none)∧Hid (Stays (fun k=>k=g) W0 wr)) (fun s7 _=>N - (intOf s7).toNat)
  case atStart=>exact ⟨0,m,by omega,rfl,HO.out.keep FB.out,fun _ _=>rfl,fun y hy=>absurd hy (by omega),Stays.refl _ _⟩
  case round =>
   obtain ⟨x,mm,hx,rfl,hO,hA,hN,hS⟩:=hrel
   have q0:=hS.out.q Q0.out (by omega)
   have q1:=hS.out.q Q1.out (by omega)
   clear y0 y1 y2 yl
   obtain ⟨y0,y1,y2,yl⟩:=c3_of q1
   by_cases hlt:x<N
   ·have hxi:(x:Int)<(N:Int):=by omega
    obtain ⟨u0,u1,u2⟩:=hO.out.at hcn
    have O1:=hO.out.set c (x:Int)
    have s1:=hS.out.trans (Stays.setCell (S:=fun k=>k=g) wr (p:=⟨g,c,none⟩) rfl (.int .i64 (x:Int))) (fun _ e => .inl e)
    have p0:=q_other (i:=c) q0 (show W.heap.size≠g by omega) (.int .i64 (x:Int))
    have p1:=q_other (i:=c) q1 (show W.heap.size+1≠g by omega) (.int .i64 (x:Int))
    go_upto_region 7 with fail
    generalize (wr.setCell ⟨g,c,none⟩ (.int .i64 (x:Int)))=w1 at O1 s1 p0 p1 ⊢
    have hA1:Agree (c+1) (m.set c (x:Int)) (mm.set c (x:Int)):=agree_set (x:=0) (by rw[HML.out];exact hcn) (by rw[hO.out.len];exact hcn) hA.out rfl
    have hM:meetsB N l (mm.set c (x:Int)) c=meetsB N l (m.set c (x:Int)) c:=(meets_agree hA1).symm
    have hR:mateR N l f (c+1) (mm.set c (x:Int))=mateR N l f (c+1) (m.set c (x:Int)):=(mateR_agree (by rw[List.length_set,HML.out];exact hcf) (by rw[List.length_set,List.length_set,HML.out];exact hO.out.len) hA1).symm
    have hA2:∀m',Agree (c+1) (mm.set c (x:Int)) m'→Agree c m m':=fun m' h i hi=>by
     rw[← h i (by omega),← hA1 i (by omega),gset_get (by rw[HML.out];exact hcn),if_neg (by omega)]
    have I1:IC w1 a nn l:=((HI.out.mono FB.out).stays s1 (fun b o _ e=>hne b o e))
    have HMT:=Lib.hid (fun W' (hb:Below w1.heap.size w1 W')=>rmts_c N (N:Int) (N:Int) (N:Int) a nn ca l (some ⟨g,0,none⟩) nn cap (mm.set c (x:Int)) c W' (I1.mono hb) ((O1.keep hb).ic (by omega)) hN1 hcn hcn (by omega))
    rw[hM] at HMT
    have HMA:=Lib.hid (fun W' (hb:Below w1.heap.size w1 W')=>HIH.out (c+1) (mm.set c (x:Int)) W' hcf (O1.keep hb) (I1.mono hb))
    unfold RmE at HMA
    rw[hR] at HMA
    have HO1:=Lib.hid O1
    have HS1:=Lib.hid s1
    have P0:=Lib.hid p0
    have P1:=Lib.hid p1
    obtain ⟨x0,x1,x2,xl⟩:=c3_of p0
    clear y0 y1 y2 yl u0 u1 u2
    obtain ⟨y0,y1,y2,yl⟩:=c3_of p1
    have HA2:=Lib.hid hA2
    clear q0 q1 p0 p1 hM hR hA1 hA2 I1 O1 s1
    have HX:Hid (∀y,y<x+1→(if meetsB N l (m.set c (x:Int)) c=true then none else mateR N l f (c+1) (m.set c (x:Int)))=none→(if meetsB N l (m.set c (y:Int)) c=true then none else mateR N l f (c+1) (m.set c (y:Int)))=none):=fun y hy h=>by
     by_cases e:y=x
     ·rw[e];exact h
     ·exact hN.out y (by omega)
    have HYS:Hid (∀r,meetsB N l (m.set c (x:Int)) c=false→mateR N l f (c+1) (m.set c (x:Int))=some r→mateR N l (f+1) c m=some r):=fun r h1 h2=>by
     rw[HF.out]
     exact findSome_first hlt (fun i hi=>hN.out i hi) (by rw[h1,h2];rfl)
    have W0B:W0.heap.size≤w1.heap.size:=HS1.out.size
    generalize hbm:meetsB N l (m.set c (x:Int)) c=bm at HMT
    generalize hrr:mateR N l f (c+1) (m.set c (x:Int))=rr at HMA
    cases bm with
    | true =>
     have HN2:Hid (∀y,y<x+1→(if meetsB N l (m.set c (y:Int)) c=true then none else mateR N l f (c+1) (m.set c (y:Int)))=none):=fun y hy=>HX.out y hy (by rw[hbm];rfl)
     clear hbm hrr
     go_wp2_with (first|(go_at_call 158;refine (HMT.out _ (Below.refl _ _)).mono ?_;rintro _ w5 ⟨rfl,hb5⟩)|fail)
     go_roundw
     case rel=>exact ⟨x+1,mm.set c (x:Int),by omega,by go_num,HO1.out.keep hb5,HA2.out _ (fun _ _=>rfl),HN2,HS1.out.trans (Below.stays hb5 _) (fun _ e => .inl e)⟩
     case measure=>simp[intOf];omega
    | false =>
     cases rr with
     | none =>
      have HN2:Hid (∀y,y<x+1→(if meetsB N l (m.set c (y:Int)) c=true then none else mateR N l f (c+1) (m.set c (y:Int)))=none):=fun y hy=>HX.out y hy (by rw[hbm,hrr];rfl)
      clear hbm hrr
      go_wp2_with (first|(go_at_call 158;refine (HMT.out _ (Below.refl _ _)).mono ?_;rintro _ w5 ⟨rfl,hb5⟩;obtain ⟨x50,x51,x52,x5l⟩:=c3_of (keepq hb5 P0.out);obtain ⟨y50,y51,y52,y5l⟩:=c3_of (keepq hb5 P1.out))|(go_at_call 102;refine (HMA.out _ hb5).mono ?_;rintro _ w6 ⟨rfl,⟨m',hm',ha'⟩,hs6⟩)|fail)
      go_roundw
      case rel=>exact ⟨x+1,m',by omega,by go_num,hm',HA2.out _ ha',HN2,(HS1.out.trans (Below.stays hb5 _) (fun _ e => .inl e)).trans hs6 (fun _ e => .inl e)⟩
      case measure=>simp[intOf];omega
     | some r =>
      have HYR:=Lib.hid (HYS.out r hbm hrr)
      clear hbm hrr
      go_wp2_with (first|(go_at_call 158;refine (HMT.out _ (Below.refl _ _)).mono ?_;rintro _ w5 ⟨rfl,hb5⟩;obtain ⟨x50,x51,x52,x5l⟩:=c3_of (keepq hb5 P0.out);obtain ⟨y50,y51,y52,y5l⟩:=c3_of (keepq hb5 P1.out))|(go_at_call 102;refine (HMA.out _ hb5).mono ?_;rintro _ w6 ⟨rfl,hm',hs6⟩)|fail)
      refine bodyPost_ret (v := .bool true) ?_ rfl (RmE.yes HYR.out ⟨rfl,hm',(Below.stays FB.out _).trans ((HS1.out.trans (Below.stays hb5 _) (fun _ e => .inl e)).trans hs6 (fun _ e => .inl e)) (fun _ e => .inl e)⟩)
      simp[results,Tryz.f102,go_sem]
   ·have hno:¬(x:Int)<(N:Int):=by omega
    have HNO:Hid (mateR N l (f+1) c m=none):=by
     unfold Hid
     rw[HF.out,List.findSome?_eq_none_iff]
     intro y hy
     exact hN.out y (by have:=List.mem_range.1 hy;omega)
    go_wp2_with fail
    refine bodyPost_ret (v := .bool false) ?_ rfl (RmE.no HNO.out ⟨rfl,⟨mm,hO.out,hA.out⟩,(Below.stays FB.out _).trans hS.out (fun _ e => .inl e)⟩)
    simp[results,Tryz.f102,go_sem]
end
section
open Go Go.RowKit
attribute [local go_sem] over_cell
attribute [local go_sem] Oper.semAt_some
def RMtE (w:World) (N nn:Nat) (R:Option (List Int)) (e:Ending) (w':World):Prop :=
 match R with
 | some r=>∃g,e = .returned (.tuple #[.agg #[.int .i64 (N:Int),.int .i64 (N:Int),.slice (some ⟨g,0,none⟩) nn nn],.bool true])∧w.heap.size≤g∧IC w' (some ⟨g,0,none⟩) nn r∧Below w.heap.size w w'
 | none=>e = .returned (.tuple #[.agg #[.int .i64 0,.int .i64 0,.slice none 0 0],.bool false])∧Below w.heap.size w w'
def rmtO (N:Nat) (l:List Int):Option (List Int):=mateR N l (N*N) 0 (List.replicate (N*N) 0)
theorem rMate0_c (N nn:Nat) (a:Option Addr) (ca:Nat) (l:List Int) (R:Option (List Int)) (w:World) (h:IC w a nn l) (hN1:1≤N) (hN2:N≤16) (hnn:nn=N*N) (hR:mateR N l nn 0 (List.replicate nn 0)=R) :
  Calls Tryz.prog 23 #[.agg #[.int .i64 (N:Int),.int .i64 (N:Int),.slice a nn ca]] w (RMtE w N nn R):=by
 have hmm:nn≤256:=by rw[hnn];exact Nat.mul_le_mul hN2 hN2
 have hpos:1≤nn:=by rw[hnn];exact Nat.mul_pos hN1 hN1
 have HSQ:=Lib.hid (fun W=>rsq_c N nn hnn (by omega) W)
 have HR:=Lib.hid hR
 clear hnn hR
 obtain ⟨b,off,ha,hbl,_⟩:=h.2 0 (by omega)
 have HI:=Lib.hid h
 have HBL:=Lib.hid hbl
 subst ha
 clear h
 go_enter Tryz.func23,Tryz.ntmps23
 go_upto_region 1 with fail
 have fsz:((w.alloc (.cells #[.int .i64 (N:Int),.int .i64 (N:Int),.slice (some ⟨b,off,none⟩) nn ca] 24)).alloc (.cells #[.int .i64 0,.int .i64 0,.slice none 0 0] 24)).heap.size=w.heap.size+2:=by simp only[World.size_alloc] <;> omega
 have fB:Below w.heap.size w ((w.alloc (.cells #[.int .i64 (N:Int),.int .i64 (N:Int),.slice (some ⟨b,off,none⟩) nn ca] 24)).alloc (.cells #[.int .i64 0,.int .i64 0,.slice none 0 0] 24)):=((Below.refl _ _).alloc (Nat.le_refl _) _).alloc (by simp only[World.size_alloc];omega) _
 have fq0:((w.alloc (.cells #[.int .i64 (N:Int),.int .i64 (N:Int),.slice (some ⟨b,off,none⟩) nn ca] 24)).alloc (.cells #[.int .i64 0,.int .i64 0,.slice none 0 0] 24)).heap[w.heap.size]?=some (.cells #[.int .i64 (N:Int),.int .i64 (N:Int),.slice (some ⟨b,off,none⟩) nn ca] 24 (0,0)):=by have h:=World.alloc_heap_new w (.cells #[.int .i64 (N:Int),.int .i64 (N:Int),.slice (some ⟨b,off,none⟩) nn ca] 24);exact (Below.heap_alloc _ _ _ (by simp only[World.size_alloc];omega)).trans (h)
 have fq1:((w.alloc (.cells #[.int .i64 (N:Int),.int .i64 (N:Int),.slice (some ⟨b,off,none⟩) nn ca] 24)).alloc (.cells #[.int .i64 0,.int .i64 0,.slice none 0 0] 24)).heap[w.heap.size+1]?=some (.cells #[.int .i64 0,.int .i64 0,.slice none 0 0] 24 (0,0)):=by have h:=World.alloc_heap_new (w.alloc (.cells #[.int .i64 (N:Int),.int .i64 (N:Int),.slice (some ⟨b,off,none⟩) nn ca] 24)) (.cells #[.int .i64 0,.int .i64 0,.slice none 0 0] 24);simp only[World.size_alloc] at h;exact h
 generalize ((w.alloc (.cells #[.int .i64 (N:Int),.int .i64 (N:Int),.slice (some ⟨b,off,none⟩) nn ca] 24)).alloc (.cells #[.int .i64 0,.int .i64 0,.slice none 0 0] 24))=W0 at fsz fB fq0 fq1 ⊢
 have Q0:=Lib.hid fq0
 have Q1:=Lib.hid fq1
 have FB:=Lib.hid fB
 obtain ⟨x0,x1,x2,xl⟩:=c3_of fq0
 have hs0:w.heap.size+2=W0.heap.size:=fsz.symm
 clear fq0 fq1 fsz fB
 go_upto_region 2 with (first|(go_at_call 101;refine (HSQ.out _).mono ?_;rintro _ w2 ⟨g,rfl,hO2,hb2⟩)|fail)
 have hg:=hO2.blk
 have ksz:(w2.alloc (.cells #[.int .i64 (N:Int),.int .i64 (N:Int),.slice (some ⟨g,0,none⟩) nn nn] 24)).heap.size=w2.heap.size+1:=by simp only[World.size_alloc]
 have kB:Below w2.heap.size w2 (w2.alloc (.cells #[.int .i64 (N:Int),.int .i64 (N:Int),.slice (some ⟨g,0,none⟩) nn nn] 24)):=(Below.refl _ _).alloc (Nat.le_refl _) _
 have kq0:(w2.alloc (.cells #[.int .i64 (N:Int),.int .i64 (N:Int),.slice (some ⟨g,0,none⟩) nn nn] 24)).heap[w2.heap.size]?=some (.cells #[.int .i64 (N:Int),.int .i64 (N:Int),.slice (some ⟨g,0,none⟩) nn nn] 24 (0,0)):=by have h:=World.alloc_heap_new w2 (.cells #[.int .i64 (N:Int),.int .i64 (N:Int),.slice (some ⟨g,0,none⟩) nn nn] 24);exact h
 generalize (w2.alloc (.cells #[.int .i64 (N:Int),.int .i64 (N:Int),.slice (some ⟨g,0,none⟩) nn nn] 24))=W3 at ksz kB kq0 ⊢
 have HB3:=Lib.hid (keep_trans hb2 kB)
 have R0:=Lib.hid (keepq HB3.out Q0.out)
 have R1:=Lib.hid (keepq HB3.out Q1.out)
 have R2:=Lib.hid kq0
 have hw3:w2.heap.size+1=W3.heap.size:=ksz.symm
 have hbg:b≠g:=by have:=HBL.out;omega
 have HMA:=Lib.hid (rmate_c N nn (W0.heap.size+1) g nn (some ⟨b,off,none⟩) ca l hN1 (by omega) (by omega) (fun b2 o2 e=>by cases e;exact hbg) nn 0 (List.replicate nn 0) W3 (by omega) (hO2.keep kB) (HI.out.mono (keep_trans FB.out HB3.out)))
 unfold RmE at HMA
 rw[HR.out] at HMA
 obtain ⟨x0,x1,x2,xl⟩:=c3_of R0.out
 obtain ⟨y0,y1,y2,yl⟩:=c3_of R2.out
 clear hO2 hb2 kB kq0 ksz
 have hgl:g<w2.heap.size:=hg.2
 have hgw:W0.heap.size≤g:=by omega
 cases R with
 | none =>
  go_wp2_with (first|(go_at_call 102;refine HMA.out.mono ?_;rintro _ w5 ⟨rfl,⟨m',hm',_⟩,hs5⟩;have r1:=hs5.q R1.out (by omega);obtain ⟨u0,u1,u2,ul⟩:=c3_of r1;obtain ⟨uf0,uf1,uf2⟩:=f3_of r1;have hb5:Below w.heap.size w w5:=hs5.below' (B:=w.heap.size) (by omega) (keep_trans FB.out HB3.out) (fun k e=>by omega))|fail)
  have g3:=st3_q (x0 := .int .i64 0) (x1 := .int .i64 0) (x2 := .slice none 0 0) r1
  have hb3:=st3_below (x0 := .int .i64 0) (x1 := .int .i64 0) (x2 := .slice none 0 0) (b:=w.heap.size+1) hb5 (by omega)
  obtain ⟨z0,z1,z2,zl⟩:=c3_of g3
  refine bodyPost_ret (v := .tuple #[.agg #[.int .i64 0,.int .i64 0,.slice none 0 0],.bool false]) ?_ rfl ⟨rfl,hb3⟩
  simp[results,Tryz.f23,go_sem,z0,z1,z2]
 | some r =>
  go_wp2_with (first|(go_at_call 102;refine HMA.out.mono ?_;rintro _ w5 ⟨rfl,hm',hs5⟩;have r1:=hs5.q R1.out (by omega);have r2:=hs5.q R2.out (by omega);obtain ⟨v0,v1,v2,vl⟩:=c3_of r2;obtain ⟨u0,u1,u2,ul⟩:=c3_of r1;obtain ⟨uf0,uf1,uf2⟩:=f3_of r1;have hb5:Below w.heap.size w w5:=hs5.below' (B:=w.heap.size) (by omega) (keep_trans FB.out HB3.out) (fun k e=>by omega))|fail)
  have g3:=st3_q (x0 := .int .i64 (N:Int)) (x1 := .int .i64 (N:Int)) (x2 := .slice (some ⟨g,0,none⟩) nn nn) r1
  have hb3:=st3_below (x0 := .int .i64 (N:Int)) (x1 := .int .i64 (N:Int)) (x2 := .slice (some ⟨g,0,none⟩) nn nn) (b:=w.heap.size+1) hb5 (by omega)
  have o3:=((hm'.other (b:=w.heap.size+1) (i:=0) (by omega) (.int .i64 (N:Int))).other (b:=w.heap.size+1) (i:=1) (by omega) (.int .i64 (N:Int))).other (b:=w.heap.size+1) (i:=2) (by omega) (.slice (some ⟨g,0,none⟩) nn nn)
  obtain ⟨z0,z1,z2,zl⟩:=c3_of g3
  refine bodyPost_ret (v := .tuple #[.agg #[.int .i64 (N:Int),.int .i64 (N:Int),.slice (some ⟨g,0,none⟩) nn nn],.bool true]) ?_ rfl ⟨g,rfl,by omega,o3.ic (by omega),hb3⟩
  simp[results,Tryz.f23,go_sem,z0,z1,z2]
theorem rmtO_eq (N:Nat) (l:List Int):mtO N l=rmtO N l:=by
 unfold mtO rmtO
 have hl:(blankL N).length=N*N:=madeTo_len _ _ _
 exact mate_eq (by rw[hl];omega) (by rw[hl,List.length_replicate]) (fun i hi=>absurd hi (by omega)) (fun i hi=>absurd hi (by omega)) (fun i _ hi=>by rw[hl] at hi;rw[blank_get,if_pos hi];decide)
theorem rMate_c (N:Nat) (a:Option Addr) (ca:Nat) (l:List Int) (w:World) (h:IC w a (N*N) l) (hN1:1≤N) (hN2:N≤16) :
  Calls Tryz.prog 23 #[.agg #[.int .i64 (N:Int),.int .i64 (N:Int),.slice a (N*N) ca]] w (RMtE w N (N*N) (mtO N l)):=by
 rw[rmtO_eq]
 exact rMate0_c N (N*N) a ca l _ w h hN1 hN2 rfl rfl
end
end Go.Proofs.YtmfpdakaeagdpaaGreat
