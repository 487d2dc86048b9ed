/- Texts J135 to J135 of this proof, in one file. -/
import Derived.Test.YtmfpdakaeagdpaaGreatW01
import Derived.Test.YtmfpdakaeagdpaaGreatW02
import Derived.Test.YtmfpdakaeagdpaaGreatW03
import Derived.Test.YtmfpdakaeagdpaaGreatW04
import Derived.Test.YtmfpdakaeagdpaaGreatW05
import Derived.Test.YtmfpdakaeagdpaaGreatW06
import Derived.Test.YtmfpdakaeagdpaaGreatW07
import Derived.Test.YtmfpdakaeagdpaaGreatW08
import Derived.Test.YtmfpdakaeagdpaaGreatW09
import Derived.Test.YtmfpdakaeagdpaaGreatW10
import Derived.Test.YtmfpdakaeagdpaaGreatW11
import Derived.Test.YtmfpdakaeagdpaaGreatW12
import Derived.Test.YtmfpdakaeagdpaaGreatW13
import Derived.Test.YtmfpdakaeagdpaaGreatW14
import Derived.Test.YtmfpdakaeagdpaaGreatW15
import Derived.Test.YtmfpdakaeagdpaaGreatW16
import Derived.Test.YtmfpdakaeagdpaaGreatW17
import Derived.Test.YtmfpdakaeagdpaaGreatW18
import Derived.Test.YtmfpdakaeagdpaaGreatW19
import Derived.Test.YtmfpdakaeagdpaaGreatW20
import Derived.Test.YtmfpdakaeagdpaaGreatW21
import Derived.Test.YtmfpdakaeagdpaaGreatW22
import Derived.Test.YtmfpdakaeagdpaaGreatW23
import Derived.Test.YtmfpdakaeagdpaaGreatW24
import Derived.Test.YtmfpdakaeagdpaaGreatW25
import Derived.Test.YtmfpdakaeagdpaaGreatW26
import Derived.Test.YtmfpdakaeagdpaaGreatW27
import Derived.Test.YtmfpdakaeagdpaaGreatX24n01
import Derived.Test.YtmfpdakaeagdpaaGreatX24n02
import Derived.Below
import Derived.BigFrame
import Derived.BigQuiet
import Derived.Deep.CutBlock
import Derived.Deep.CutRange
import Derived.Deep.LoopGhost
import Derived.Deep.Quiet
import Derived.Deep.RegionHeld3
import Derived.DeepKeys4
import Derived.KernelRfl
import Derived.Laws.BitsAllLaws
import Derived.Laws.EntriesVeiled
import Derived.Lib.AppendZeros
import Derived.Lib.Hide
import Derived.Lib.SlKeysI
import Derived.Lib.SliceRun
import Derived.LoopIn
import Derived.LoopNIn
import Derived.Maps.AppendAt
import Derived.Maps.OwnIn
import Derived.Maps.OwnSet
import Derived.OneCell
import Derived.OrdersHeld
import Derived.OrdersIn
import Derived.OwnWalkIn
import Derived.RangeFuncBound
import Derived.RangeFuncBox
import Derived.RangeFuncCalls
import Derived.RangeFuncLeaves
import Derived.RangeFuncNested
import Derived.RangeFuncWrites
import Derived.Shelf.Abstract
import Derived.Shelf.SortM.Plain
import Derived.Still
import Derived.TacticsIn
import Derived.TacticsInMore
import Derived.Test.YtmfpdakaeagdpaaGreatProg
import Derived.WalkKit
import Derived.WalkLawsBesides
import Derived.WalkSpells
import Derived.WideKeyPair
namespace Go.Proofs.YtmfpdakaeagdpaaGreat
set_option maxRecDepth 100000
set_option maxHeartbeats 16000000
section
open Go Go.RowKit
attribute [local go_sem] over_cell
attribute [local go_sem] Oper.semAt_some
theorem lhall_a (a:Option Addr) (n c:Nat) (w:World) (h7:(7:Int)<(n:Int))
  : Calls Tryz.prog 7 #[.slice a n c] w fun e w'=>e = .returned (.bool true)∧Below w.heap.size w w':=by
 have d7:decide ((7:Int)<(n:Int))=true:=decide_eq_true h7
 go_enter Tryz.func7,Tryz.ntmps7
 go_wp2_with ((go_at_call 20;refine (awake4_c _).mono ?_;rintro _ wz ⟨rfl,hbz⟩))
 refine bodyPost_ret (v := .bool true) ?_ rfl ⟨rfl,show Below w.heap.size w wz by (repeat (first|assumption|exact Below.refl _ _|refine keep_drew ?_|refine keep_alloc ?_ _|refine keep_trans ?_ (by assumption)))⟩
 simp[results,Tryz.f7,go_sem]
theorem lhall_b (a:Option Addr) (n c:Nat) (w:World) (h7:¬(7:Int)<(n:Int))
  (HS:∀W,Below w.heap.size w W→Calls Tryz.prog 30 #[.slice a n c] W fun e w'=>(e = .returned (.bool false))∧Below W.heap.size W w')
  : Calls Tryz.prog 7 #[.slice a n c] w fun e w'=>e = .returned (.bool true)∧Below w.heap.size w w':=by
 have HS:=Lib.hid HS
 have d7:decide ((7:Int)<(n:Int))=false:=decide_eq_false h7
 go_enter Tryz.func7,Tryz.ntmps7
 go_wp2_with (first|(go_at_call 30;(with_reducible refine (HS.out _ (by (repeat (first|assumption|exact Below.refl _ _|refine keep_drew ?_|refine keep_alloc ?_ _|refine keep_trans ?_ (by assumption))))).mono ?_);rintro _ w1 ⟨rfl,hb1⟩)|(go_at_call 20;refine (awake4_c _).mono ?_;rintro _ wz ⟨rfl,hbz⟩)|fail)
 refine bodyPost_ret (v := .bool true) ?_ rfl ⟨rfl,show Below w.heap.size w wz by (repeat (first|assumption|exact Below.refl _ _|refine keep_drew ?_|refine keep_alloc ?_ _|refine keep_trans ?_ (by assumption)))⟩
 simp[results,Tryz.f7,go_sem]
theorem lhall_c (a:Option Addr) (n c:Nat) (w:World) (h7:¬(7:Int)<(n:Int)) (ea:Int) (h0:ea≠0)
  (HS:∀W,Below w.heap.size w W→Calls Tryz.prog 30 #[.slice a n c] W fun e w'=>(e = .returned (.bool true))∧Below W.heap.size W w')
  (HA:∀W,Below w.heap.size w W→Calls Tryz.prog 34 #[.slice a n c] W fun e w'=>(e = .returned (.int .i64 ea))∧Below W.heap.size W w')
  : Calls Tryz.prog 7 #[.slice a n c] w fun e w'=>e = .returned (.bool true)∧Below w.heap.size w w':=by
 have HS:=Lib.hid HS
 have HA:=Lib.hid HA
 have d7:decide ((7:Int)<(n:Int))=false:=decide_eq_false h7
 have e1:(ea != 0)=true:=by simpa using h0
 clear h0
 go_enter Tryz.func7,Tryz.ntmps7
 go_wp2_with (first|(go_at_call 30;(with_reducible refine (HS.out _ (by (repeat (first|assumption|exact Below.refl _ _|refine keep_drew ?_|refine keep_alloc ?_ _|refine keep_trans ?_ (by assumption))))).mono ?_);rintro _ w1 ⟨rfl,hb1⟩)|(go_at_call 34;(with_reducible refine (HA.out _ (by (repeat (first|assumption|exact Below.refl _ _|refine keep_drew ?_|refine keep_alloc ?_ _|refine keep_trans ?_ (by assumption))))).mono ?_);rintro _ w2 ⟨rfl,hb2⟩)|(go_at_call 20;refine (awake4_c _).mono ?_;rintro _ wz ⟨rfl,hbz⟩)|fail)
 refine bodyPost_ret (v := .bool true) ?_ rfl ⟨rfl,show Below w.heap.size w wz by (repeat (first|assumption|exact Below.refl _ _|refine keep_drew ?_|refine keep_alloc ?_ _|refine keep_trans ?_ (by assumption)))⟩
 simp[results,Tryz.f7,go_sem]
theorem lhall_d (a:Option Addr) (n c:Nat) (w:World) (h7:¬(7:Int)<(n:Int)) (sets:List (List Int)) (l:List Int) (hr:RC w a n sets) (hl:Sdr sets l)
  (HS:∀W,Below w.heap.size w W→Calls Tryz.prog 30 #[.slice a n c] W fun e w'=>(e = .returned (.bool true))∧Below W.heap.size W w')
  (HA:∀W,Below w.heap.size w W→Calls Tryz.prog 34 #[.slice a n c] W fun e w'=>(e = .returned (.int .i64 0))∧Below W.heap.size W w')
  (HP:∀W,Below w.heap.size w W→Calls Tryz.prog 31 #[.slice a n c] W fun e w'=>(∃a5 c5,e = .returned (.tuple #[.slice a5 n c5,.int .i64 0])∧IC w' a5 n l)∧Below W.heap.size W w')
  (HQ:∀W,Below w.heap.size w W→Calls Tryz.prog 32 #[.slice a n c] W fun e w'=>(∃a6 c6,e = .returned (.tuple #[.slice a6 0 c6,.int .i64 7])∧IC w' a6 0 []∧0≤c6)∧Below W.heap.size W w')
  : Calls Tryz.prog 7 #[.slice a n c] w fun e w'=>e = .returned (.bool true)∧Below w.heap.size w w':=by
 have HS:=Lib.hid HS
 have HA:=Lib.hid HA
 have HP:=Lib.hid HP
 have HQ:=Lib.hid HQ
 have d7:decide ((7:Int)<(n:Int))=false:=decide_eq_false h7
 have HM:Hid (∀i,i<n→l[i]?.getD 0∈sets[i]?.getD []):=fun i hi=>hl.mem i (by rw[hr.len];exact hi)
 have HLL:Hid (l.length=n):=hl.len.trans hr.len
 have HND:Hid (∀k i,k<i→i<n→l[k]?.getD 0≠l[i]?.getD 0):=fun k i hk hi e=>by
  rw[List.getElem?_eq_getElem (by rw[HLL.out];omega),List.getElem?_eq_getElem (by rw[HLL.out];omega),Option.getD_some,Option.getD_some] at e
  exact absurd ((List.getElem_inj hl.nodup).1 e) (by omega)
 have HRC:=Lib.hid hr
 have hnn:((n:Int) != (n:Int))=false:=by simp
 clear hr hl
 go_enter Tryz.func7,Tryz.ntmps7
 go_upto_region 8 with (first|(go_at_call 30;(with_reducible refine (HS.out _ (by (repeat (first|assumption|exact Below.refl _ _|refine keep_drew ?_|refine keep_alloc ?_ _|refine keep_trans ?_ (by assumption))))).mono ?_);rintro _ w1 ⟨rfl,hb1⟩)|(go_at_call 34;(with_reducible refine (HA.out _ (by (repeat (first|assumption|exact Below.refl _ _|refine keep_drew ?_|refine keep_alloc ?_ _|refine keep_trans ?_ (by assumption))))).mono ?_);rintro _ w2 ⟨rfl,hb2⟩)|(go_at_call 31;(with_reducible refine (HP.out _ (by (repeat (first|assumption|exact Below.refl _ _|refine keep_drew ?_|refine keep_alloc ?_ _|refine keep_trans ?_ (by assumption))))).mono ?_);rintro _ w5 ⟨⟨a5,c5,rfl,hi5⟩,hb5⟩)|(go_at_call 32;(with_reducible refine (HQ.out _ (by (repeat (first|assumption|exact Below.refl _ _|refine keep_drew ?_|refine keep_alloc ?_ _|refine keep_trans ?_ (by assumption))))).mono ?_);rintro _ w6 ⟨⟨a6,c6,rfl,hi6,hc6⟩,hb6⟩)|fail)
 have HI5:=Lib.hid (show IC w6 a5 n l from hi5.mono (by (repeat (first|assumption|exact Below.refl _ _|refine keep_drew ?_|refine keep_alloc ?_ _|refine keep_trans ?_ (by assumption)))))
 have HB6:=Lib.hid (show Below w.heap.size w w6 by (repeat (first|assumption|exact Below.refl _ _|refine keep_drew ?_|refine keep_alloc ?_ _|refine keep_trans ?_ (by assumption))))
 clear hi5 hi6 hb1 hb2 hb5 hb6
 go_wp2_with fail
 go_loopw [7,8,9,11,12,56] (fun _ _ _ _ _ s56 wr=>∃i:Nat,i≤n∧s56 = .int .i64 (i:Int)∧wr=w6) (fun _ _ _ _ _ s56 _=>n - (intOf s56).toNat)
 case atStart=>exact ⟨0,by omega,rfl,rfl⟩
 case round =>
  obtain ⟨i,hi,rfl,hwr⟩:=hrel
  replace hwr:=hwr.symm
  subst hwr
  by_cases hlt:i<n
  ·have hii:(i:Int)<(n:Int):=by omega
   obtain ⟨b1,off1,rfl,hbl1,hc1⟩:=HI5.out.2 i hlt
   obtain ⟨b,off,a',n',c',rfl,hb0,hc0,hi9,_⟩:=(HRC.out.mono HB6.out).2 i hlt
   have HX:=Lib.hid (HM.out i hlt)
   have HNE:=Lib.hid (fun k hk=>HND.out k i hk hlt)
   generalize l[i]?.getD 0=x at hc1 HX HNE
   generalize sets[i]?.getD []=ys at hi9 HX
   have HY:=Lib.hid hi9
   have HYL:=Lib.hid hi9.len
   have hym:=hi9.small
   clear hi9
   go_wp2_with fail
   go_loopw [9,11,66] (fun s9 _ s66 wr=>∃j:Nat,j≤n'∧s66 = .int .i64 (j:Int)∧s9 = .bool (decide (x∈ys.take j))∧wr=w6) (fun _ _ s66 _=>n' - (intOf s66).toNat)
   case atStart=>exact ⟨0,by omega,rfl,by simp,rfl⟩
   case round =>
    obtain ⟨j,hj,rfl,rfl,hwr⟩:=hrel
    replace hwr:=hwr.symm
    subst hwr
    by_cases hlt2:j<n'
    ·have hji:(j:Int)<(n':Int):=by omega
     obtain ⟨b2,off2,rfl,hbl2,hc2⟩:=HY.out.2 j hlt2
     have HT:Hid (decide (x∈ys.take (j+1))=(decide (x∈ys.take j)||(x==ys[j]?.getD 0))):=by
      unfold Hid
      rw[take_snoc2 (by rw[HYL.out];exact hlt2),Bool.eq_iff_iff,Bool.or_eq_true,decide_eq_true_eq,decide_eq_true_eq,beq_iff_eq,List.mem_append,List.mem_singleton]
     generalize ys[j]?.getD 0=y at hc2 HT
     generalize decide (x∈ys.take j)=bb at HT ⊢
     cases bb with
     | true =>
      rw[Bool.true_or] at HT
      go_wp2_with fail
      go_roundw
      case rel=>exact ⟨j+1,by omega,by go_num,by rw[HT.out],trivial⟩
      case measure=>simp[intOf];omega
     | false =>
      rw[Bool.false_or] at HT
      obtain ⟨bx,hbx⟩:∃bx,(x==y)=bx:=⟨_,rfl⟩
      rw[hbx] at HT
      go_wp2_with fail
      go_roundw
      case rel=>exact ⟨j+1,by omega,by go_num,by rw[HT.out],trivial⟩
      case measure=>simp[intOf];omega
    ·have hji:¬(j:Int)<(n':Int):=by omega
     have HT:Hid (decide (x∈ys.take j)=true):=by
      unfold Hid
      rw[List.take_of_length_le (by rw[HYL.out];omega)]
      exact decide_eq_true HX.out
     rw[HT.out]
     clear HT
     go_wp2_with fail
     go_loopw [9,12] (fun s9 s12 wr=>∃k:Nat,k≤i∧s12 = .int .i64 (k:Int)∧s9 = .bool true∧wr=w6) (fun _ s12 _=>i - (intOf s12).toNat)
     case atStart=>exact ⟨0,by omega,rfl,rfl,rfl⟩
     case round =>
      obtain ⟨k,hk,rfl,rfl,hwr⟩:=hrel
      replace hwr:=hwr.symm
      subst hwr
      by_cases hlt3:k<i
      ·have hki:(k:Int)<(i:Int):=by omega
       have hkn:(k:Int)<(n:Int):=by omega
       obtain ⟨_,_,e3,hbl3,hc3⟩:=HI5.out.2 k (by omega)
       cases e3
       have hne:=HNE.out k hlt3
       generalize l[k]?.getD 0=z at hc3 hne
       have hzx:(z != x)=true:=by simpa using hne
       clear hne
       go_wp2_with fail
       go_roundw
       case rel=>exact ⟨k+1,by omega,by go_num,rfl,trivial⟩
       case measure=>simp[intOf];omega
      ·have hki:¬(k:Int)<(i:Int):=by omega
       go_wp2_with fail
       go_roundw
       case rel=>exact ⟨i+1,by omega,by go_num,trivial⟩
       case measure=>simp[intOf];omega
  ·have hii:¬(i:Int)<(n:Int):=by omega
   go_wp2_with ((go_at_call 20;refine (awake4_c _).mono ?_;rintro _ wz ⟨rfl,hbz⟩))
   refine bodyPost_ret (v := .bool true) ?_ rfl ⟨rfl,keep_trans HB6.out hbz⟩
   simp[results,Tryz.f7,go_sem]
theorem lhall_e (a:Option Addr) (n c:Nat) (w:World) (h7:¬(7:Int)<(n:Int)) (k:Nat) (h:List Int) (h1:¬(1:Int)<(k:Int))
  (HS:∀W,Below w.heap.size w W→Calls Tryz.prog 30 #[.slice a n c] W fun e w'=>(e = .returned (.bool true))∧Below W.heap.size W w')
  (HA:∀W,Below w.heap.size w W→Calls Tryz.prog 34 #[.slice a n c] W fun e w'=>(e = .returned (.int .i64 0))∧Below W.heap.size W w')
  (HP:∀W,Below w.heap.size w W→Calls Tryz.prog 31 #[.slice a n c] W fun e w'=>(∃a5 c5,e = .returned (.tuple #[.slice a5 0 c5,.int .i64 21])∧IC w' a5 0 [])∧Below W.heap.size W w')
  (HQ:∀W,Below w.heap.size w W→Calls Tryz.prog 32 #[.slice a n c] W fun e w'=>(∃a6 c6,e = .returned (.tuple #[.slice a6 k c6,.int .i64 0])∧IC w' a6 k h∧k≤c6)∧Below W.heap.size W w')
  (HH1:∀W a6 c6,IC W a6 k h→Below w.heap.size w W→Calls Tryz.prog 33 #[.slice a n c,.slice a6 k c6] W fun e w'=>e = .returned (.int .i64 0)∧Below W.heap.size W w')
  (HC2:∀W a6 c6,IC W a6 k h→Below w.heap.size w W→Calls Tryz.prog 35 #[.slice a n c,.slice a6 k c6] W fun e w'=>e = .returned (.int .i64 0)∧Below W.heap.size W w')
  (HV2:∀W a6 c6,IC W a6 k h→Below w.heap.size w W→Calls Tryz.prog 36 #[.slice a n c,.slice a6 k c6] W fun e w'=>e = .returned (.bool true)∧Below W.heap.size W w')
  : Calls Tryz.prog 7 #[.slice a n c] w fun e w'=>e = .returned (.bool true)∧Below w.heap.size w w':=by
 have HS:=Lib.hid HS
 have HA:=Lib.hid HA
 have HP:=Lib.hid HP
 have HQ:=Lib.hid HQ
 have HH1:=Lib.hid HH1
 have HC2:=Lib.hid HC2
 have HV2:=Lib.hid HV2
 have d7:decide ((7:Int)<(n:Int))=false:=decide_eq_false h7
 have d1:decide ((1:Int)<(k:Int))=false:=decide_eq_false h1
 go_enter Tryz.func7,Tryz.ntmps7
 go_upto_region 25 with (first|(go_at_call 30;(with_reducible refine (HS.out _ (by (repeat (first|assumption|exact Below.refl _ _|refine keep_drew ?_|refine keep_alloc ?_ _|refine keep_trans ?_ (by assumption))))).mono ?_);rintro _ w1 ⟨rfl,hb1⟩)|(go_at_call 34;(with_reducible refine (HA.out _ (by (repeat (first|assumption|exact Below.refl _ _|refine keep_drew ?_|refine keep_alloc ?_ _|refine keep_trans ?_ (by assumption))))).mono ?_);rintro _ w2 ⟨rfl,hb2⟩)|(go_at_call 31;(with_reducible refine (HP.out _ (by (repeat (first|assumption|exact Below.refl _ _|refine keep_drew ?_|refine keep_alloc ?_ _|refine keep_trans ?_ (by assumption))))).mono ?_);rintro _ w5 ⟨⟨a5,c5,rfl,hi5⟩,hb5⟩)|(go_at_call 32;(with_reducible refine (HQ.out _ (by (repeat (first|assumption|exact Below.refl _ _|refine keep_drew ?_|refine keep_alloc ?_ _|refine keep_trans ?_ (by assumption))))).mono ?_);rintro _ w6 ⟨⟨a6,c6,rfl,hi6,hc6⟩,hb6⟩)|fail)
 have HI6:=Lib.hid hi6
 have HB6:=Lib.hid (show Below w.heap.size w w6 by (repeat (first|assumption|exact Below.refl _ _|refine keep_drew ?_|refine keep_alloc ?_ _|refine keep_trans ?_ (by assumption))))
 clear hi5 hi6 hb1 hb2 hb5 hb6
 go_wp2_with (first|(go_at_call 33;(with_reducible refine (HH1.out _ _ _ (HI6.out.mono (by (repeat (first|assumption|exact Below.refl _ _|refine keep_drew ?_|refine keep_alloc ?_ _|refine keep_trans ?_ (by assumption))))) (keep_trans HB6.out (by (repeat (first|assumption|exact Below.refl _ _|refine keep_drew ?_|refine keep_alloc ?_ _|refine keep_trans ?_ (by assumption)))))).mono ?_);rintro _ w7 ⟨rfl,hbw7⟩)|(go_at_call 35;(with_reducible refine (HC2.out _ _ _ (HI6.out.mono (by (repeat (first|assumption|exact Below.refl _ _|refine keep_drew ?_|refine keep_alloc ?_ _|refine keep_trans ?_ (by assumption))))) (keep_trans HB6.out (by (repeat (first|assumption|exact Below.refl _ _|refine keep_drew ?_|refine keep_alloc ?_ _|refine keep_trans ?_ (by assumption)))))).mono ?_);rintro _ w8 ⟨rfl,hbw8⟩)|(go_at_call 36;(with_reducible refine (HV2.out _ _ _ (HI6.out.mono (by (repeat (first|assumption|exact Below.refl _ _|refine keep_drew ?_|refine keep_alloc ?_ _|refine keep_trans ?_ (by assumption))))) (keep_trans HB6.out (by (repeat (first|assumption|exact Below.refl _ _|refine keep_drew ?_|refine keep_alloc ?_ _|refine keep_trans ?_ (by assumption)))))).mono ?_);rintro _ w9 ⟨rfl,hbw9⟩)|(go_at_call 20;refine (awake4_c _).mono ?_;rintro _ wz ⟨rfl,hbz⟩)|fail)
 refine bodyPost_ret (v := .bool true) ?_ rfl ⟨rfl,keep_trans HB6.out (show Below w6.heap.size w6 wz by (repeat (first|assumption|exact Below.refl _ _|refine keep_drew ?_|refine keep_alloc ?_ _|refine keep_trans ?_ (by assumption))))⟩
 simp[results,Tryz.f7,go_sem]
theorem lhall_f (a:Option Addr) (n c:Nat) (w:World) (h7:¬(7:Int)<(n:Int)) (k:Nat) (h:List Int) (h1:(1:Int)<(k:Int))
  (HS:∀W,Below w.heap.size w W→Calls Tryz.prog 30 #[.slice a n c] W fun e w'=>(e = .returned (.bool true))∧Below W.heap.size W w')
  (HA:∀W,Below w.heap.size w W→Calls Tryz.prog 34 #[.slice a n c] W fun e w'=>(e = .returned (.int .i64 0))∧Below W.heap.size W w')
  (HP:∀W,Below w.heap.size w W→Calls Tryz.prog 31 #[.slice a n c] W fun e w'=>(∃a5 c5,e = .returned (.tuple #[.slice a5 0 c5,.int .i64 21])∧IC w' a5 0 [])∧Below W.heap.size W w')
  (HQ:∀W,Below w.heap.size w W→Calls Tryz.prog 32 #[.slice a n c] W fun e w'=>(∃a6 c6,e = .returned (.tuple #[.slice a6 k c6,.int .i64 0])∧IC w' a6 k h∧k≤c6)∧Below W.heap.size W w')
  (HH1:∀W a6 c6,IC W a6 k h→Below w.heap.size w W→Calls Tryz.prog 33 #[.slice a n c,.slice a6 k c6] W fun e w'=>e = .returned (.int .i64 0)∧Below W.heap.size W w')
  (HC2:∀W a6 c6,IC W a6 k h→Below w.heap.size w W→Calls Tryz.prog 35 #[.slice a n c,.slice a6 k c6] W fun e w'=>e = .returned (.int .i64 0)∧Below W.heap.size W w')
  (HV2:∀W a6 c6,IC W a6 k h→Below w.heap.size w W→Calls Tryz.prog 36 #[.slice a n c,.slice a6 k c6] W fun e w'=>e = .returned (.bool true)∧Below W.heap.size W w')
  (HH2:∀W a6 c6,Below w.heap.size w W→Calls Tryz.prog 33 #[.slice a n c,.slice a6 0 c6] W fun e w'=>e = .returned (.int .i64 19)∧Below W.heap.size W w')
  : Calls Tryz.prog 7 #[.slice a n c] w fun e w'=>e = .returned (.bool true)∧Below w.heap.size w w':=by
 have HS:=Lib.hid HS
 have HA:=Lib.hid HA
 have HP:=Lib.hid HP
 have HQ:=Lib.hid HQ
 have HH1:=Lib.hid HH1
 have HC2:=Lib.hid HC2
 have HV2:=Lib.hid HV2
 have HH2:=Lib.hid HH2
 have d7:decide ((7:Int)<(n:Int))=false:=decide_eq_false h7
 have d1:decide ((1:Int)<(k:Int))=true:=decide_eq_true h1
 go_enter Tryz.func7,Tryz.ntmps7
 go_upto_region 25 with (first|(go_at_call 30;(with_reducible refine (HS.out _ (by (repeat (first|assumption|exact Below.refl _ _|refine keep_drew ?_|refine keep_alloc ?_ _|refine keep_trans ?_ (by assumption))))).mono ?_);rintro _ w1 ⟨rfl,hb1⟩)|(go_at_call 34;(with_reducible refine (HA.out _ (by (repeat (first|assumption|exact Below.refl _ _|refine keep_drew ?_|refine keep_alloc ?_ _|refine keep_trans ?_ (by assumption))))).mono ?_);rintro _ w2 ⟨rfl,hb2⟩)|(go_at_call 31;(with_reducible refine (HP.out _ (by (repeat (first|assumption|exact Below.refl _ _|refine keep_drew ?_|refine keep_alloc ?_ _|refine keep_trans ?_ (by assumption))))).mono ?_);rintro _ w5 ⟨⟨a5,c5,rfl,hi5⟩,hb5⟩)|(go_at_call 32;(with_reducible refine (HQ.out _ (by (repeat (first|assumption|exact Below.refl _ _|refine keep_drew ?_|refine keep_alloc ?_ _|refine keep_trans ?_ (by assumption))))).mono ?_);rintro _ w6 ⟨⟨a6,c6,rfl,hi6,hc6⟩,hb6⟩)|fail)
 have HI6:=Lib.hid hi6
 have HB6:=Lib.hid (show Below w.heap.size w w6 by (repeat (first|assumption|exact Below.refl _ _|refine keep_drew ?_|refine keep_alloc ?_ _|refine keep_trans ?_ (by assumption))))
 obtain ⟨b6,off6,rfl,_,_⟩:=hi6.2 0 (by omega)
 have hsm:=hi6.small
 clear hi5 hi6 hb1 hb2 hb5 hb6
 go_upto_region 27 with (first|(go_at_call 33;(with_reducible refine (HH1.out _ _ _ (HI6.out.mono (by (repeat (first|assumption|exact Below.refl _ _|refine keep_drew ?_|refine keep_alloc ?_ _|refine keep_trans ?_ (by assumption))))) (keep_trans HB6.out (by (repeat (first|assumption|exact Below.refl _ _|refine keep_drew ?_|refine keep_alloc ?_ _|refine keep_trans ?_ (by assumption)))))).mono ?_);rintro _ w7 ⟨rfl,hbw7⟩)|(go_at_call 35;(with_reducible refine (HC2.out _ _ _ (HI6.out.mono (by (repeat (first|assumption|exact Below.refl _ _|refine keep_drew ?_|refine keep_alloc ?_ _|refine keep_trans ?_ (by assumption))))) (keep_trans HB6.out (by (repeat (first|assumption|exact Below.refl _ _|refine keep_drew ?_|refine keep_alloc ?_ _|refine keep_trans ?_ (by assumption)))))).mono ?_);rintro _ w8 ⟨rfl,hbw8⟩)|(go_at_call 36;(with_reducible refine (HV2.out _ _ _ (HI6.out.mono (by (repeat (first|assumption|exact Below.refl _ _|refine keep_drew ?_|refine keep_alloc ?_ _|refine keep_trans ?_ (by assumption))))) (keep_trans HB6.out (by (repeat (first|assumption|exact Below.refl _ _|refine keep_drew ?_|refine keep_alloc ?_ _|refine keep_trans ?_ (by assumption)))))).mono ?_);rintro _ w9 ⟨rfl,hbw9⟩)|fail)
 go_wp2_with (first|(go_at_call 33;(with_reducible refine (HH2.out _ _ _ (keep_trans HB6.out (by (repeat (first|assumption|exact Below.refl _ _|refine keep_drew ?_|refine keep_alloc ?_ _|refine keep_trans ?_ (by assumption)))))).mono ?_);rintro _ w10 ⟨rfl,hbw10⟩)|(go_at_call 20;refine (awake4_c _).mono ?_;rintro _ wz ⟨rfl,hbz⟩)|fail)
 refine bodyPost_ret (v := .bool true) ?_ rfl ⟨rfl,keep_trans HB6.out (show Below w6.heap.size w6 wz by (repeat (first|assumption|exact Below.refl _ _|refine keep_drew ?_|refine keep_alloc ?_ _|refine keep_trans ?_ (by assumption))))⟩
 simp[results,Tryz.f7,go_sem]
theorem lhall_c0 (a:Option Addr) (n c:Nat) (sets:List (List Int)) (w:World) (h:RC w a n sets) (_hc:n≤c):Calls Tryz.prog 7 #[.slice a n c] w fun e w'=>e = .returned (.bool true)∧Below w.heap.size w w':=by
 by_cases h7:(7:Int)<(n:Int)
 ·exact lhall_a a n c w h7
 have HS:=fun W (hb:Below w.heap.size w W)=>lshort_c a n c sets W (h.mono hb)
 cases hs:fewSB sets with
 | false =>
  rw[hs] at HS
  exact lhall_b a n c w h7 HS
 | true =>
  rw[hs] at HS
  have HA:=fun W (hb:Below w.heap.size w W)=>rcsets_c a n c sets W (h.mono hb)
  by_cases h0:stE sets=0
  ·rw[h0] at HA
   have HP:=fun W (hb:Below w.heap.size w W)=>represent_c a n c sets W (h.mono hb)
   have HQ:=fun W (hb:Below w.heap.size w W)=>hall_c a n c sets W (h.mono hb)
   have hB:=(stE_ok h0).1
   have hfl:=hB.ok.few.2
   have hln:=h.len
   have hints:∀{w:World} {l:List Int} {er:Int} {e:Ending} {w':World},IntsE w l er e w'→l.length≤17592186044416→(∃a c,e = .returned (.tuple #[.slice a l.length c,.int .i64 er])∧IC w' a l.length l∧l.length≤c)∧Below w.heap.size w w':=fun hg hl=>by
    obtain ⟨a,c,h1,h2,h3⟩:=hg
    exact ⟨⟨a,c,h1,(IC.of_owns h2 hl).1,(IC.of_owns h2 hl).2⟩,h3⟩
   rcases rp_ha sets with ⟨l,g,e1,e2,e3⟩|⟨A,e1,e2,V,hA⟩
   ·have hL:rpL sets=l:=by unfold rpL;rw[if_pos h0,e1];rfl
    have hE:rpE sets=0:=by unfold rpE;rw[if_pos h0,e1];rfl
    have hL2:haL sets=[]:=by unfold haL;rw[if_pos h0,e2]
    have hE2:haE sets=7:=by unfold haE;rw[if_pos h0,e2]
    rw[hL,hE] at HP
    rw[hL2,hE2] at HQ
    have hll:l.length=n:=e3.len.trans hln
    refine lhall_d a n c w h7 sets l h e3 HS HA (fun W hb=>(HP W hb).mono fun e w' hg=>?_) (fun W hb=>(HQ W hb).mono fun e w' hg=>hints hg (by simp))
    obtain ⟨⟨a9,c9,g1,g2,_⟩,g3⟩:=hints hg (by omega)
    rw[hll] at g1 g2
    exact ⟨⟨a9,c9,g1,g2⟩,g3⟩
   ·have hL:rpL sets=[]:=by unfold rpL;rw[if_pos h0,e1];rfl
    have hE:rpE sets=21:=by unfold rpE;rw[if_pos h0,e1];rfl
    have hL2:haL sets=vioL A:=by unfold haL;rw[if_pos h0,e2]
    have hE2:haE sets=0:=by unfold haE;rw[if_pos h0,e2]
    rw[hL,hE] at HP
    rw[hL2,hE2] at HQ
    have hvl:(vioL A).length≤17592186044416:=by
     have h1:(vioL A).length≤(List.range sets.length).length:=by
      rw[vioL_len]
      exact nodupA_le V.nodup (fun t ht=>List.mem_range.2 (V.lt t ht))
     rw[List.length_range] at h1
     have:=hB.few
     omega
    have hvc:=vio_cho V
    rw[hln] at hvc
    have hvf:=vio_few V
    have hvE:=vio_chE h0 V
    have HP2:∀W,Below w.heap.size w W→Calls Tryz.prog 31 #[.slice a n c] W fun e w'=>(∃a5 c5,e = .returned (.tuple #[.slice a5 0 c5,.int .i64 21])∧IC w' a5 0 [])∧Below W.heap.size W w':=fun W hb=>(HP W hb).mono fun e w' hg=>by
     obtain ⟨⟨a9,c9,g1,g2,_⟩,g3⟩:=hints hg (by simp)
     exact ⟨⟨a9,c9,g1,g2⟩,g3⟩
    have HQ2:=fun W (hb:Below w.heap.size w W)=>(HQ W hb).mono fun e w' hg=>hints hg hvl
    have HH1:∀W a6 c6,IC W a6 (vioL A).length (vioL A)→Below w.heap.size w W→Calls Tryz.prog 33 #[.slice a n c,.slice a6 (vioL A).length c6] W fun e w'=>e = .returned (.int .i64 0)∧Below W.heap.size W w':=fun W a6 c6 hi hb=>by
     have:=checkhall_c a n c sets a6 (vioL A).length c6 (vioL A) W (h.mono hb) hi
     rw[hvE] at this
     exact this
    have HC2:∀W a6 c6,IC W a6 (vioL A).length (vioL A)→Below w.heap.size w W→Calls Tryz.prog 35 #[.slice a n c,.slice a6 (vioL A).length c6] W fun e w'=>e = .returned (.int .i64 0)∧Below W.heap.size W w':=fun W a6 c6 hi hb=>by
     have:=rchosen_c a n c a6 (vioL A).length c6 (vioL A) W hi
     rw[hvc] at this
     exact this
    have HV2:∀W a6 c6,IC W a6 (vioL A).length (vioL A)→Below w.heap.size w W→Calls Tryz.prog 36 #[.slice a n c,.slice a6 (vioL A).length c6] W fun e w'=>e = .returned (.bool true)∧Below W.heap.size W w':=fun W a6 c6 hi hb=>by
     have:=rviol_c a n c sets a6 (vioL A).length c6 (vioL A) W (h.mono hb) hi hfl hvc
     rw[decide_eq_true hvf] at this
     exact this
    by_cases h1:(1:Int)<((vioL A).length:Int)
    ·refine lhall_f a n c w h7 _ _ h1 HS HA HP2 HQ2 HH1 HC2 HV2 (fun W a6 c6 hb=>?_)
     have:=checkhall_c a n c sets a6 0 c6 [] W (h.mono hb) ⟨⟨rfl,by omega⟩,fun k hk=>absurd hk (by omega)⟩
     rw[chE_nil h0] at this
     exact this
    ·exact lhall_e a n c w h7 _ _ h1 HS HA HP2 HQ2 HH1 HC2 HV2
  ·exact lhall_c a n c w h7 _ h0 HS HA
end
end Go.Proofs.YtmfpdakaeagdpaaGreat
