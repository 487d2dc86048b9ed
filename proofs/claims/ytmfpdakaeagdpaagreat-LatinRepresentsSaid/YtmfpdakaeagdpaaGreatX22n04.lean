/- Texts J131 to J131 of this proof, in one file. -/
import Derived.Test.YtmfpdakaeagdpaaGreatW01
import Derived.Test.YtmfpdakaeagdpaaGreatW02
import Derived.Test.YtmfpdakaeagdpaaGreatW03
import Derived.Test.YtmfpdakaeagdpaaGreatW04
import Derived.Test.YtmfpdakaeagdpaaGreatW05
import Derived.Test.YtmfpdakaeagdpaaGreatW06
import Derived.Test.YtmfpdakaeagdpaaGreatW07
import Derived.Test.YtmfpdakaeagdpaaGreatW08
import Derived.Test.YtmfpdakaeagdpaaGreatW09
import Derived.Test.YtmfpdakaeagdpaaGreatW10
import Derived.Test.YtmfpdakaeagdpaaGreatW11
import Derived.Test.YtmfpdakaeagdpaaGreatW12
import Derived.Test.YtmfpdakaeagdpaaGreatW13
import Derived.Test.YtmfpdakaeagdpaaGreatW14
import Derived.Test.YtmfpdakaeagdpaaGreatW15
import Derived.Test.YtmfpdakaeagdpaaGreatW16
import Derived.Test.YtmfpdakaeagdpaaGreatW17
import Derived.Test.YtmfpdakaeagdpaaGreatW18
import Derived.Test.YtmfpdakaeagdpaaGreatW19
import Derived.Test.YtmfpdakaeagdpaaGreatW20
import Derived.Test.YtmfpdakaeagdpaaGreatW21
import Derived.Test.YtmfpdakaeagdpaaGreatW22
import Derived.Test.YtmfpdakaeagdpaaGreatW23
import Derived.Test.YtmfpdakaeagdpaaGreatW24
import Derived.Test.YtmfpdakaeagdpaaGreatW25
import Derived.Test.YtmfpdakaeagdpaaGreatW26
import Derived.Test.YtmfpdakaeagdpaaGreatW27
import Derived.Test.YtmfpdakaeagdpaaGreatX22n01
import Derived.Test.YtmfpdakaeagdpaaGreatX22n02
import Derived.Test.YtmfpdakaeagdpaaGreatX22n03
import Derived.Below
import Derived.BigFrame
import Derived.BigQuiet
import Derived.Deep.CutBlock
import Derived.Deep.CutRange
import Derived.Deep.LoopGhost
import Derived.Deep.Quiet
import Derived.Deep.RegionHeld3
import Derived.DeepKeys4
import Derived.KernelRfl
import Derived.Laws.BitsAllLaws
import Derived.Laws.EntriesVeiled
import Derived.Lib.AppendZeros
import Derived.Lib.Hide
import Derived.Lib.SlKeysI
import Derived.Lib.SliceRun
import Derived.LoopIn
import Derived.LoopNIn
import Derived.Maps.AppendAt
import Derived.Maps.OwnIn
import Derived.Maps.OwnSet
import Derived.OneCell
import Derived.OrdersHeld
import Derived.OrdersIn
import Derived.OwnWalkIn
import Derived.RangeFuncBound
import Derived.RangeFuncBox
import Derived.RangeFuncCalls
import Derived.RangeFuncLeaves
import Derived.RangeFuncNested
import Derived.RangeFuncWrites
import Derived.Shelf.Abstract
import Derived.Shelf.SortM.Plain
import Derived.Still
import Derived.TacticsIn
import Derived.TacticsInMore
import Derived.Test.YtmfpdakaeagdpaaGreatProg
import Derived.WalkKit
import Derived.WalkLawsBesides
import Derived.WalkSpells
import Derived.WideKeyPair
namespace Go.Proofs.YtmfpdakaeagdpaaGreat
set_option maxRecDepth 100000
set_option maxHeartbeats 16000000
section
open Go Go.RowKit
attribute [local go_sem] over_cell
attribute [local go_sem] Oper.semAt_some
theorem lrep_a (a:Option Addr) (n c:Nat) (a2:Option Addr) (n2 c2:Nat) (w:World)
  (HS:∀W,Below w.heap.size w W→Calls Tryz.prog 30 #[.slice a n c] W fun e w'=>(e = .returned (.bool false))∧Below W.heap.size W w')
  : Calls Tryz.prog 5 #[.slice a n c,.slice a2 n2 c2] w fun e w'=>e = .returned (.bool true)∧Below w.heap.size w w':=by
 have HS:=Lib.hid HS
 go_enter Tryz.func5,Tryz.ntmps5
 go_wp2_with (first|(go_at_call 30;(with_reducible refine (HS.out _ (by (repeat (first|assumption|exact Below.refl _ _|refine keep_drew ?_|refine keep_alloc ?_ _|refine keep_trans ?_ (by assumption))))).mono ?_);rintro _ w1 ⟨rfl,hb1⟩)|(go_at_call 20;refine (awake4_c _).mono ?_;rintro _ wz ⟨rfl,hbz⟩)|fail)
 refine bodyPost_ret (v := .bool true) ?_ rfl ⟨rfl,show Below w.heap.size w wz by (repeat (first|assumption|exact Below.refl _ _|refine keep_drew ?_|refine keep_alloc ?_ _|refine keep_trans ?_ (by assumption)))⟩
 simp[results,Tryz.f5,go_sem]
theorem lrep_b (a:Option Addr) (n c:Nat) (a2:Option Addr) (n2 c2:Nat) (w:World) (h60:(60:Int)<(n2:Int))
  (HS:∀W,Below w.heap.size w W→Calls Tryz.prog 30 #[.slice a n c] W fun e w'=>(e = .returned (.bool true))∧Below W.heap.size W w')
  : Calls Tryz.prog 5 #[.slice a n c,.slice a2 n2 c2] w fun e w'=>e = .returned (.bool true)∧Below w.heap.size w w':=by
 have HS:=Lib.hid HS
 have d60:decide ((60:Int)<(n2:Int))=true:=decide_eq_true h60
 go_enter Tryz.func5,Tryz.ntmps5
 go_wp2_with (first|(go_at_call 30;(with_reducible refine (HS.out _ (by (repeat (first|assumption|exact Below.refl _ _|refine keep_drew ?_|refine keep_alloc ?_ _|refine keep_trans ?_ (by assumption))))).mono ?_);rintro _ w1 ⟨rfl,hb1⟩)|(go_at_call 20;refine (awake4_c _).mono ?_;rintro _ wz ⟨rfl,hbz⟩)|fail)
 refine bodyPost_ret (v := .bool true) ?_ rfl ⟨rfl,show Below w.heap.size w wz by (repeat (first|assumption|exact Below.refl _ _|refine keep_drew ?_|refine keep_alloc ?_ _|refine keep_trans ?_ (by assumption)))⟩
 simp[results,Tryz.f5,go_sem]
theorem lrep_c (a:Option Addr) (n c:Nat) (a2:Option Addr) (n2 c2:Nat) (w:World) (h60:¬(60:Int)<(n2:Int)) (ea:Int) (h0:ea≠0)
  (HS:∀W,Below w.heap.size w W→Calls Tryz.prog 30 #[.slice a n c] W fun e w'=>(e = .returned (.bool true))∧Below W.heap.size W w')
  (HP:∀W,Below w.heap.size w W→Calls Tryz.prog 31 #[.slice a n c] W fun e w'=>(∃a5 c5,e = .returned (.tuple #[.slice a5 0 c5,.int .i64 ea])∧IC w' a5 0 [])∧Below W.heap.size W w')
  (HQ:∀W,Below w.heap.size w W→Calls Tryz.prog 32 #[.slice a n c] W fun e w'=>(∃a6 c6,e = .returned (.tuple #[.slice a6 0 c6,.int .i64 ea])∧IC w' a6 0 [])∧Below W.heap.size W w')
  (HH:∀W,Below w.heap.size w W→Calls Tryz.prog 33 #[.slice a n c,.slice a2 n2 c2] W fun e w'=>(e = .returned (.int .i64 ea))∧Below W.heap.size W w')
  (HA:∀W,Below w.heap.size w W→Calls Tryz.prog 34 #[.slice a n c] W fun e w'=>(e = .returned (.int .i64 ea))∧Below W.heap.size W w')
  : Calls Tryz.prog 5 #[.slice a n c,.slice a2 n2 c2] w fun e w'=>e = .returned (.bool true)∧Below w.heap.size w w':=by
 have HS:=Lib.hid HS
 have HP:=Lib.hid HP
 have HQ:=Lib.hid HQ
 have HH:=Lib.hid HH
 have HA:=Lib.hid HA
 have d60:decide ((60:Int)<(n2:Int))=false:=decide_eq_false h60
 have e1:(ea != 0)=true:=by simpa using h0
 have e2:(ea==ea)=true:=by simp
 clear h0
 go_enter Tryz.func5,Tryz.ntmps5
 go_wp2_with (first|(go_at_call 30;(with_reducible refine (HS.out _ (by (repeat (first|assumption|exact Below.refl _ _|refine keep_drew ?_|refine keep_alloc ?_ _|refine keep_trans ?_ (by assumption))))).mono ?_);rintro _ w1 ⟨rfl,hb1⟩)|(go_at_call 31;(with_reducible refine (HP.out _ (by (repeat (first|assumption|exact Below.refl _ _|refine keep_drew ?_|refine keep_alloc ?_ _|refine keep_trans ?_ (by assumption))))).mono ?_);rintro _ w5 ⟨⟨a5,c5,rfl,hi5⟩,hb5⟩)|(go_at_call 32;(with_reducible refine (HQ.out _ (by (repeat (first|assumption|exact Below.refl _ _|refine keep_drew ?_|refine keep_alloc ?_ _|refine keep_trans ?_ (by assumption))))).mono ?_);rintro _ w6 ⟨⟨a6,c6,rfl,hi6⟩,hb6⟩)|(go_at_call 33;(with_reducible refine (HH.out _ (by (repeat (first|assumption|exact Below.refl _ _|refine keep_drew ?_|refine keep_alloc ?_ _|refine keep_trans ?_ (by assumption))))).mono ?_);rintro _ w7 ⟨rfl,hb7⟩)|(go_at_call 34;(with_reducible refine (HA.out _ (by (repeat (first|assumption|exact Below.refl _ _|refine keep_drew ?_|refine keep_alloc ?_ _|refine keep_trans ?_ (by assumption))))).mono ?_);rintro _ w8 ⟨rfl,hb8⟩)|(go_at_call 20;refine (awake4_c _).mono ?_;rintro _ wz ⟨rfl,hbz⟩)|fail)
 refine bodyPost_ret (v := .bool true) ?_ rfl ⟨rfl,show Below w.heap.size w wz by (repeat (first|assumption|exact Below.refl _ _|refine keep_drew ?_|refine keep_alloc ?_ _|refine keep_trans ?_ (by assumption)))⟩
 simp[results,Tryz.f5,go_sem]
theorem lrep_x1 (a:Option Addr) (n c:Nat) (a2:Option Addr) (n2 c2:Nat) (w:World) (h60:¬(60:Int)<(n2:Int)) (t:Int) (h0:t≠0) (m:Nat) (l:List Int)
  (HS:∀W,Below w.heap.size w W→Calls Tryz.prog 30 #[.slice a n c] W fun e w'=>(e = .returned (.bool true))∧Below W.heap.size W w')
  (HP:∀W,Below w.heap.size w W→Calls Tryz.prog 31 #[.slice a n c] W fun e w'=>(∃a5 c5,e = .returned (.tuple #[.slice a5 m c5,.int .i64 0])∧IC w' a5 m l)∧Below W.heap.size W w')
  (HQ:∀W,Below w.heap.size w W→Calls Tryz.prog 32 #[.slice a n c] W fun e w'=>(∃a6 c6,e = .returned (.tuple #[.slice a6 0 c6,.int .i64 7])∧IC w' a6 0 [])∧Below W.heap.size W w')
  (HH:∀W,Below w.heap.size w W→Calls Tryz.prog 33 #[.slice a n c,.slice a2 n2 c2] W fun e w'=>(e = .returned (.int .i64 t))∧Below W.heap.size W w')
  (HA:∀W,Below w.heap.size w W→Calls Tryz.prog 34 #[.slice a n c] W fun e w'=>(e = .returned (.int .i64 0))∧Below W.heap.size W w')
  (HC:∀W,Below w.heap.size w W→Calls Tryz.prog 35 #[.slice a n c,.slice a2 n2 c2] W fun e w'=>(e = .returned (.int .i64 t))∧Below W.heap.size W w')
  (HR:∀W,Below w.heap.size w W→Calls Tryz.prog 37 #[.slice a n c] W fun e w'=>(∃a11 c11,e = .returned (.tuple #[.slice a11 m c11,.bool true])∧IC w' a11 m l)∧Below W.heap.size W w')
  : Calls Tryz.prog 5 #[.slice a n c,.slice a2 n2 c2] w fun e w'=>e = .returned (.bool true)∧Below w.heap.size w w':=by
 have HS:=Lib.hid HS
 have HP:=Lib.hid HP
 have HQ:=Lib.hid HQ
 have HH:=Lib.hid HH
 have HA:=Lib.hid HA
 have HC:=Lib.hid HC
 have HR:=Lib.hid HR
 have d60:decide ((60:Int)<(n2:Int))=false:=decide_eq_false h60
 have e1:(t==0)=false:=by simpa using h0
 have e2:(t != t)=false:=by simp
 clear h0
 go_enter Tryz.func5,Tryz.ntmps5
 go_upto_region 16 with (first|(go_at_call 30;(with_reducible refine (HS.out _ (by (repeat (first|assumption|exact Below.refl _ _|refine keep_drew ?_|refine keep_alloc ?_ _|refine keep_trans ?_ (by assumption))))).mono ?_);rintro _ w1 ⟨rfl,hb1⟩)|(go_at_call 31;(with_reducible refine (HP.out _ (by (repeat (first|assumption|exact Below.refl _ _|refine keep_drew ?_|refine keep_alloc ?_ _|refine keep_trans ?_ (by assumption))))).mono ?_);rintro _ w5 ⟨⟨a5,c5,rfl,hi5⟩,hb5⟩)|(go_at_call 32;(with_reducible refine (HQ.out _ (by (repeat (first|assumption|exact Below.refl _ _|refine keep_drew ?_|refine keep_alloc ?_ _|refine keep_trans ?_ (by assumption))))).mono ?_);rintro _ w6 ⟨⟨a6,c6,rfl,hi6⟩,hb6⟩)|(go_at_call 33;(with_reducible refine (HH.out _ (by (repeat (first|assumption|exact Below.refl _ _|refine keep_drew ?_|refine keep_alloc ?_ _|refine keep_trans ?_ (by assumption))))).mono ?_);rintro _ w7 ⟨rfl,hb7⟩)|(go_at_call 34;(with_reducible refine (HA.out _ (by (repeat (first|assumption|exact Below.refl _ _|refine keep_drew ?_|refine keep_alloc ?_ _|refine keep_trans ?_ (by assumption))))).mono ?_);rintro _ w8 ⟨rfl,hb8⟩)|(go_at_call 35;(with_reducible refine (HC.out _ (by (repeat (first|assumption|exact Below.refl _ _|refine keep_drew ?_|refine keep_alloc ?_ _|refine keep_trans ?_ (by assumption))))).mono ?_);rintro _ w9 ⟨rfl,hb9⟩)|(go_at_call 37;(with_reducible refine (HR.out _ (by (repeat (first|assumption|exact Below.refl _ _|refine keep_drew ?_|refine keep_alloc ?_ _|refine keep_trans ?_ (by assumption))))).mono ?_);rintro _ w11 ⟨⟨a11,c11,rfl,hi11⟩,hb11⟩)|fail)
 have hi5':IC w11 a5 m l:=hi5.mono (by (repeat (first|assumption|exact Below.refl _ _|refine keep_drew ?_|refine keep_alloc ?_ _|refine keep_trans ?_ (by assumption))))
 have HSI:=Lib.hid (fun W (hb:Below w11.heap.size w11 W)=>same_c a5 a11 m m c5 c11 l l W (hi5'.mono hb) (hi11.mono hb))
 rw[show sameB l l=true from decide_eq_true rfl] at HSI
 go_wp2_with (first|(go_at_call 38;(with_reducible refine (HSI.out _ (by (repeat (first|assumption|exact Below.refl _ _|refine keep_drew ?_|refine keep_alloc ?_ _|refine keep_trans ?_ (by assumption))))).mono ?_);rintro _ w12 ⟨rfl,hb12⟩)|(go_at_call 20;refine (awake4_c _).mono ?_;rintro _ wz ⟨rfl,hbz⟩)|fail)
 refine bodyPost_ret (v := .bool true) ?_ rfl ⟨rfl,show Below w.heap.size w wz by (repeat (first|assumption|exact Below.refl _ _|refine keep_drew ?_|refine keep_alloc ?_ _|refine keep_trans ?_ (by assumption)))⟩
 simp[results,Tryz.f5,go_sem]
theorem lrep_x0 (a:Option Addr) (n c:Nat) (a2:Option Addr) (n2 c2:Nat) (w:World) (h60:¬(60:Int)<(n2:Int)) (t:Int) (h0:t≠0) (k:Nat) (h:List Int)
  (HS:∀W,Below w.heap.size w W→Calls Tryz.prog 30 #[.slice a n c] W fun e w'=>(e = .returned (.bool true))∧Below W.heap.size W w')
  (HP:∀W,Below w.heap.size w W→Calls Tryz.prog 31 #[.slice a n c] W fun e w'=>(∃a5 c5,e = .returned (.tuple #[.slice a5 0 c5,.int .i64 21])∧IC w' a5 0 [])∧Below W.heap.size W w')
  (HQ:∀W,Below w.heap.size w W→Calls Tryz.prog 32 #[.slice a n c] W fun e w'=>(∃a6 c6,e = .returned (.tuple #[.slice a6 k c6,.int .i64 0])∧IC w' a6 k h)∧Below W.heap.size W w')
  (HH:∀W,Below w.heap.size w W→Calls Tryz.prog 33 #[.slice a n c,.slice a2 n2 c2] W fun e w'=>(e = .returned (.int .i64 t))∧Below W.heap.size W w')
  (HA:∀W,Below w.heap.size w W→Calls Tryz.prog 34 #[.slice a n c] W fun e w'=>(e = .returned (.int .i64 0))∧Below W.heap.size W w')
  (HC:∀W,Below w.heap.size w W→Calls Tryz.prog 35 #[.slice a n c,.slice a2 n2 c2] W fun e w'=>(e = .returned (.int .i64 t))∧Below W.heap.size W w')
  (HR:∀W,Below w.heap.size w W→Calls Tryz.prog 37 #[.slice a n c] W fun e w'=>(∃(x:Value),e = .returned (.tuple #[x,.bool false]))∧Below W.heap.size W w')
  (HC2:∀W a6 c6,IC W a6 k h→Below w.heap.size w W→Calls Tryz.prog 35 #[.slice a n c,.slice a6 k c6] W fun e w'=>e = .returned (.int .i64 0)∧Below W.heap.size W w')
  (HV2:∀W a6 c6,IC W a6 k h→Below w.heap.size w W→Calls Tryz.prog 36 #[.slice a n c,.slice a6 k c6] W fun e w'=>e = .returned (.bool true)∧Below W.heap.size W w')
  : Calls Tryz.prog 5 #[.slice a n c,.slice a2 n2 c2] w fun e w'=>e = .returned (.bool true)∧Below w.heap.size w w':=by
 have HS:=Lib.hid HS
 have HP:=Lib.hid HP
 have HQ:=Lib.hid HQ
 have HH:=Lib.hid HH
 have HA:=Lib.hid HA
 have HC:=Lib.hid HC
 have HR:=Lib.hid HR
 have HC2:=Lib.hid HC2
 have HV2:=Lib.hid HV2
 have d60:decide ((60:Int)<(n2:Int))=false:=decide_eq_false h60
 have e1:(t==0)=false:=by simpa using h0
 have e2:(t != t)=false:=by simp
 clear h0
 go_enter Tryz.func5,Tryz.ntmps5
 go_upto_region 17 with (first|(go_at_call 30;(with_reducible refine (HS.out _ (by (repeat (first|assumption|exact Below.refl _ _|refine keep_drew ?_|refine keep_alloc ?_ _|refine keep_trans ?_ (by assumption))))).mono ?_);rintro _ w1 ⟨rfl,hb1⟩)|(go_at_call 31;(with_reducible refine (HP.out _ (by (repeat (first|assumption|exact Below.refl _ _|refine keep_drew ?_|refine keep_alloc ?_ _|refine keep_trans ?_ (by assumption))))).mono ?_);rintro _ w5 ⟨⟨a5,c5,rfl,hi5⟩,hb5⟩)|(go_at_call 32;(with_reducible refine (HQ.out _ (by (repeat (first|assumption|exact Below.refl _ _|refine keep_drew ?_|refine keep_alloc ?_ _|refine keep_trans ?_ (by assumption))))).mono ?_);rintro _ w6 ⟨⟨a6,c6,rfl,hi6⟩,hb6⟩)|(go_at_call 33;(with_reducible refine (HH.out _ (by (repeat (first|assumption|exact Below.refl _ _|refine keep_drew ?_|refine keep_alloc ?_ _|refine keep_trans ?_ (by assumption))))).mono ?_);rintro _ w7 ⟨rfl,hb7⟩)|(go_at_call 34;(with_reducible refine (HA.out _ (by (repeat (first|assumption|exact Below.refl _ _|refine keep_drew ?_|refine keep_alloc ?_ _|refine keep_trans ?_ (by assumption))))).mono ?_);rintro _ w8 ⟨rfl,hb8⟩)|(go_at_call 35;(with_reducible refine (HC.out _ (by (repeat (first|assumption|exact Below.refl _ _|refine keep_drew ?_|refine keep_alloc ?_ _|refine keep_trans ?_ (by assumption))))).mono ?_);rintro _ w9 ⟨rfl,hb9⟩)|(go_at_call 37;(with_reducible refine (HR.out _ (by (repeat (first|assumption|exact Below.refl _ _|refine keep_drew ?_|refine keep_alloc ?_ _|refine keep_trans ?_ (by assumption))))).mono ?_);rintro _ w11 ⟨⟨x11,rfl⟩,hb11⟩)|fail)
 have HI6:=Lib.hid (show IC w11 a6 k h from hi6.mono (by (repeat (first|assumption|exact Below.refl _ _|refine keep_drew ?_|refine keep_alloc ?_ _|refine keep_trans ?_ (by assumption)))))
 go_wp2_with (first|(go_at_call 35;(with_reducible refine (HC2.out _ _ _ (HI6.out.mono (by (repeat (first|assumption|exact Below.refl _ _|refine keep_drew ?_|refine keep_alloc ?_ _|refine keep_trans ?_ (by assumption))))) (by (repeat (first|assumption|exact Below.refl _ _|refine keep_drew ?_|refine keep_alloc ?_ _|refine keep_trans ?_ (by assumption))))).mono ?_);rintro _ w12 ⟨rfl,hb12⟩)|(go_at_call 36;(with_reducible refine (HV2.out _ _ _ (HI6.out.mono (by (repeat (first|assumption|exact Below.refl _ _|refine keep_drew ?_|refine keep_alloc ?_ _|refine keep_trans ?_ (by assumption))))) (by (repeat (first|assumption|exact Below.refl _ _|refine keep_drew ?_|refine keep_alloc ?_ _|refine keep_trans ?_ (by assumption))))).mono ?_);rintro _ w13 ⟨rfl,hb13⟩)|(go_at_call 20;refine (awake4_c _).mono ?_;rintro _ wz ⟨rfl,hbz⟩)|fail)
 refine bodyPost_ret (v := .bool true) ?_ rfl ⟨rfl,show Below w.heap.size w wz by (repeat (first|assumption|exact Below.refl _ _|refine keep_drew ?_|refine keep_alloc ?_ _|refine keep_trans ?_ (by assumption)))⟩
 simp[results,Tryz.f5,go_sem]
theorem lrep_y1 (a:Option Addr) (n c:Nat) (a2:Option Addr) (n2 c2:Nat) (w:World) (h60:¬(60:Int)<(n2:Int)) (m:Nat) (l:List Int)
  (HS:∀W,Below w.heap.size w W→Calls Tryz.prog 30 #[.slice a n c] W fun e w'=>(e = .returned (.bool true))∧Below W.heap.size W w')
  (HP:∀W,Below w.heap.size w W→Calls Tryz.prog 31 #[.slice a n c] W fun e w'=>(∃a5 c5,e = .returned (.tuple #[.slice a5 m c5,.int .i64 0])∧IC w' a5 m l)∧Below W.heap.size W w')
  (HQ:∀W,Below w.heap.size w W→Calls Tryz.prog 32 #[.slice a n c] W fun e w'=>(∃a6 c6,e = .returned (.tuple #[.slice a6 0 c6,.int .i64 7])∧IC w' a6 0 [])∧Below W.heap.size W w')
  (HH:∀W,Below w.heap.size w W→Calls Tryz.prog 33 #[.slice a n c,.slice a2 n2 c2] W fun e w'=>(e = .returned (.int .i64 0))∧Below W.heap.size W w')
  (HA:∀W,Below w.heap.size w W→Calls Tryz.prog 34 #[.slice a n c] W fun e w'=>(e = .returned (.int .i64 0))∧Below W.heap.size W w')
  (HC:∀W,Below w.heap.size w W→Calls Tryz.prog 35 #[.slice a n c,.slice a2 n2 c2] W fun e w'=>(e = .returned (.int .i64 0))∧Below W.heap.size W w')
  (HV:∀W,Below w.heap.size w W→Calls Tryz.prog 36 #[.slice a n c,.slice a2 n2 c2] W fun e w'=>(e = .returned (.bool true))∧Below W.heap.size W w')
  (HR:∀W,Below w.heap.size w W→Calls Tryz.prog 37 #[.slice a n c] W fun e w'=>(∃a11 c11,e = .returned (.tuple #[.slice a11 m c11,.bool true])∧IC w' a11 m l)∧Below W.heap.size W w')
  : Calls Tryz.prog 5 #[.slice a n c,.slice a2 n2 c2] w fun e w'=>e = .returned (.bool true)∧Below w.heap.size w w':=by
 have HS:=Lib.hid HS
 have HP:=Lib.hid HP
 have HQ:=Lib.hid HQ
 have HH:=Lib.hid HH
 have HA:=Lib.hid HA
 have HC:=Lib.hid HC
 have HV:=Lib.hid HV
 have HR:=Lib.hid HR
 have d60:decide ((60:Int)<(n2:Int))=false:=decide_eq_false h60
 go_enter Tryz.func5,Tryz.ntmps5
 go_upto_region 16 with (first|(go_at_call 30;(with_reducible refine (HS.out _ (by (repeat (first|assumption|exact Below.refl _ _|refine keep_drew ?_|refine keep_alloc ?_ _|refine keep_trans ?_ (by assumption))))).mono ?_);rintro _ w1 ⟨rfl,hb1⟩)|(go_at_call 31;(with_reducible refine (HP.out _ (by (repeat (first|assumption|exact Below.refl _ _|refine keep_drew ?_|refine keep_alloc ?_ _|refine keep_trans ?_ (by assumption))))).mono ?_);rintro _ w5 ⟨⟨a5,c5,rfl,hi5⟩,hb5⟩)|(go_at_call 32;(with_reducible refine (HQ.out _ (by (repeat (first|assumption|exact Below.refl _ _|refine keep_drew ?_|refine keep_alloc ?_ _|refine keep_trans ?_ (by assumption))))).mono ?_);rintro _ w6 ⟨⟨a6,c6,rfl,hi6⟩,hb6⟩)|(go_at_call 33;(with_reducible refine (HH.out _ (by (repeat (first|assumption|exact Below.refl _ _|refine keep_drew ?_|refine keep_alloc ?_ _|refine keep_trans ?_ (by assumption))))).mono ?_);rintro _ w7 ⟨rfl,hb7⟩)|(go_at_call 34;(with_reducible refine (HA.out _ (by (repeat (first|assumption|exact Below.refl _ _|refine keep_drew ?_|refine keep_alloc ?_ _|refine keep_trans ?_ (by assumption))))).mono ?_);rintro _ w8 ⟨rfl,hb8⟩)|(go_at_call 35;(with_reducible refine (HC.out _ (by (repeat (first|assumption|exact Below.refl _ _|refine keep_drew ?_|refine keep_alloc ?_ _|refine keep_trans ?_ (by assumption))))).mono ?_);rintro _ w9 ⟨rfl,hb9⟩)|(go_at_call 36;(with_reducible refine (HV.out _ (by (repeat (first|assumption|exact Below.refl _ _|refine keep_drew ?_|refine keep_alloc ?_ _|refine keep_trans ?_ (by assumption))))).mono ?_);rintro _ w10 ⟨rfl,hb10⟩)|(go_at_call 37;(with_reducible refine (HR.out _ (by (repeat (first|assumption|exact Below.refl _ _|refine keep_drew ?_|refine keep_alloc ?_ _|refine keep_trans ?_ (by assumption))))).mono ?_);rintro _ w11 ⟨⟨a11,c11,rfl,hi11⟩,hb11⟩)|fail)
 have hi5':IC w11 a5 m l:=hi5.mono (by (repeat (first|assumption|exact Below.refl _ _|refine keep_drew ?_|refine keep_alloc ?_ _|refine keep_trans ?_ (by assumption))))
 have HSI:=Lib.hid (fun W (hb:Below w11.heap.size w11 W)=>same_c a5 a11 m m c5 c11 l l W (hi5'.mono hb) (hi11.mono hb))
 rw[show sameB l l=true from decide_eq_true rfl] at HSI
 go_wp2_with (first|(go_at_call 38;(with_reducible refine (HSI.out _ (by (repeat (first|assumption|exact Below.refl _ _|refine keep_drew ?_|refine keep_alloc ?_ _|refine keep_trans ?_ (by assumption))))).mono ?_);rintro _ w12 ⟨rfl,hb12⟩)|(go_at_call 20;refine (awake4_c _).mono ?_;rintro _ wz ⟨rfl,hbz⟩)|fail)
 refine bodyPost_ret (v := .bool true) ?_ rfl ⟨rfl,show Below w.heap.size w wz by (repeat (first|assumption|exact Below.refl _ _|refine keep_drew ?_|refine keep_alloc ?_ _|refine keep_trans ?_ (by assumption)))⟩
 simp[results,Tryz.f5,go_sem]
theorem lrep_y0 (a:Option Addr) (n c:Nat) (a2:Option Addr) (n2 c2:Nat) (w:World) (h60:¬(60:Int)<(n2:Int)) (k:Nat) (h:List Int)
  (HS:∀W,Below w.heap.size w W→Calls Tryz.prog 30 #[.slice a n c] W fun e w'=>(e = .returned (.bool true))∧Below W.heap.size W w')
  (HP:∀W,Below w.heap.size w W→Calls Tryz.prog 31 #[.slice a n c] W fun e w'=>(∃a5 c5,e = .returned (.tuple #[.slice a5 0 c5,.int .i64 21])∧IC w' a5 0 [])∧Below W.heap.size W w')
  (HQ:∀W,Below w.heap.size w W→Calls Tryz.prog 32 #[.slice a n c] W fun e w'=>(∃a6 c6,e = .returned (.tuple #[.slice a6 k c6,.int .i64 0])∧IC w' a6 k h)∧Below W.heap.size W w')
  (HH:∀W,Below w.heap.size w W→Calls Tryz.prog 33 #[.slice a n c,.slice a2 n2 c2] W fun e w'=>(e = .returned (.int .i64 0))∧Below W.heap.size W w')
  (HA:∀W,Below w.heap.size w W→Calls Tryz.prog 34 #[.slice a n c] W fun e w'=>(e = .returned (.int .i64 0))∧Below W.heap.size W w')
  (HC:∀W,Below w.heap.size w W→Calls Tryz.prog 35 #[.slice a n c,.slice a2 n2 c2] W fun e w'=>(e = .returned (.int .i64 0))∧Below W.heap.size W w')
  (HV:∀W,Below w.heap.size w W→Calls Tryz.prog 36 #[.slice a n c,.slice a2 n2 c2] W fun e w'=>(e = .returned (.bool true))∧Below W.heap.size W w')
  (HR:∀W,Below w.heap.size w W→Calls Tryz.prog 37 #[.slice a n c] W fun e w'=>(∃(x:Value),e = .returned (.tuple #[x,.bool false]))∧Below W.heap.size W w')
  (HC2:∀W a6 c6,IC W a6 k h→Below w.heap.size w W→Calls Tryz.prog 35 #[.slice a n c,.slice a6 k c6] W fun e w'=>e = .returned (.int .i64 0)∧Below W.heap.size W w')
  (HV2:∀W a6 c6,IC W a6 k h→Below w.heap.size w W→Calls Tryz.prog 36 #[.slice a n c,.slice a6 k c6] W fun e w'=>e = .returned (.bool true)∧Below W.heap.size W w')
  : Calls Tryz.prog 5 #[.slice a n c,.slice a2 n2 c2] w fun e w'=>e = .returned (.bool true)∧Below w.heap.size w w':=by
 have HS:=Lib.hid HS
 have HP:=Lib.hid HP
 have HQ:=Lib.hid HQ
 have HH:=Lib.hid HH
 have HA:=Lib.hid HA
 have HC:=Lib.hid HC
 have HV:=Lib.hid HV
 have HR:=Lib.hid HR
 have HC2:=Lib.hid HC2
 have HV2:=Lib.hid HV2
 have d60:decide ((60:Int)<(n2:Int))=false:=decide_eq_false h60
 go_enter Tryz.func5,Tryz.ntmps5
 go_upto_region 17 with (first|(go_at_call 30;(with_reducible refine (HS.out _ (by (repeat (first|assumption|exact Below.refl _ _|refine keep_drew ?_|refine keep_alloc ?_ _|refine keep_trans ?_ (by assumption))))).mono ?_);rintro _ w1 ⟨rfl,hb1⟩)|(go_at_call 31;(with_reducible refine (HP.out _ (by (repeat (first|assumption|exact Below.refl _ _|refine keep_drew ?_|refine keep_alloc ?_ _|refine keep_trans ?_ (by assumption))))).mono ?_);rintro _ w5 ⟨⟨a5,c5,rfl,hi5⟩,hb5⟩)|(go_at_call 32;(with_reducible refine (HQ.out _ (by (repeat (first|assumption|exact Below.refl _ _|refine keep_drew ?_|refine keep_alloc ?_ _|refine keep_trans ?_ (by assumption))))).mono ?_);rintro _ w6 ⟨⟨a6,c6,rfl,hi6⟩,hb6⟩)|(go_at_call 33;(with_reducible refine (HH.out _ (by (repeat (first|assumption|exact Below.refl _ _|refine keep_drew ?_|refine keep_alloc ?_ _|refine keep_trans ?_ (by assumption))))).mono ?_);rintro _ w7 ⟨rfl,hb7⟩)|(go_at_call 34;(with_reducible refine (HA.out _ (by (repeat (first|assumption|exact Below.refl _ _|refine keep_drew ?_|refine keep_alloc ?_ _|refine keep_trans ?_ (by assumption))))).mono ?_);rintro _ w8 ⟨rfl,hb8⟩)|(go_at_call 35;(with_reducible refine (HC.out _ (by (repeat (first|assumption|exact Below.refl _ _|refine keep_drew ?_|refine keep_alloc ?_ _|refine keep_trans ?_ (by assumption))))).mono ?_);rintro _ w9 ⟨rfl,hb9⟩)|(go_at_call 36;(with_reducible refine (HV.out _ (by (repeat (first|assumption|exact Below.refl _ _|refine keep_drew ?_|refine keep_alloc ?_ _|refine keep_trans ?_ (by assumption))))).mono ?_);rintro _ w10 ⟨rfl,hb10⟩)|(go_at_call 37;(with_reducible refine (HR.out _ (by (repeat (first|assumption|exact Below.refl _ _|refine keep_drew ?_|refine keep_alloc ?_ _|refine keep_trans ?_ (by assumption))))).mono ?_);rintro _ w11 ⟨⟨x11,rfl⟩,hb11⟩)|fail)
 have HI6:=Lib.hid (show IC w11 a6 k h from hi6.mono (by (repeat (first|assumption|exact Below.refl _ _|refine keep_drew ?_|refine keep_alloc ?_ _|refine keep_trans ?_ (by assumption)))))
 go_wp2_with (first|(go_at_call 35;(with_reducible refine (HC2.out _ _ _ (HI6.out.mono (by (repeat (first|assumption|exact Below.refl _ _|refine keep_drew ?_|refine keep_alloc ?_ _|refine keep_trans ?_ (by assumption))))) (by (repeat (first|assumption|exact Below.refl _ _|refine keep_drew ?_|refine keep_alloc ?_ _|refine keep_trans ?_ (by assumption))))).mono ?_);rintro _ w12 ⟨rfl,hb12⟩)|(go_at_call 36;(with_reducible refine (HV2.out _ _ _ (HI6.out.mono (by (repeat (first|assumption|exact Below.refl _ _|refine keep_drew ?_|refine keep_alloc ?_ _|refine keep_trans ?_ (by assumption))))) (by (repeat (first|assumption|exact Below.refl _ _|refine keep_drew ?_|refine keep_alloc ?_ _|refine keep_trans ?_ (by assumption))))).mono ?_);rintro _ w13 ⟨rfl,hb13⟩)|(go_at_call 20;refine (awake4_c _).mono ?_;rintro _ wz ⟨rfl,hbz⟩)|fail)
 refine bodyPost_ret (v := .bool true) ?_ rfl ⟨rfl,show Below w.heap.size w wz by (repeat (first|assumption|exact Below.refl _ _|refine keep_drew ?_|refine keep_alloc ?_ _|refine keep_trans ?_ (by assumption)))⟩
 simp[results,Tryz.f5,go_sem]
theorem lrep_z1 (a:Option Addr) (n c:Nat) (a2:Option Addr) (n2 c2:Nat) (w:World) (h60:¬(60:Int)<(n2:Int)) (m:Nat) (l:List Int)
  (HS:∀W,Below w.heap.size w W→Calls Tryz.prog 30 #[.slice a n c] W fun e w'=>(e = .returned (.bool true))∧Below W.heap.size W w')
  (HP:∀W,Below w.heap.size w W→Calls Tryz.prog 31 #[.slice a n c] W fun e w'=>(∃a5 c5,e = .returned (.tuple #[.slice a5 m c5,.int .i64 0])∧IC w' a5 m l)∧Below W.heap.size W w')
  (HQ:∀W,Below w.heap.size w W→Calls Tryz.prog 32 #[.slice a n c] W fun e w'=>(∃a6 c6,e = .returned (.tuple #[.slice a6 0 c6,.int .i64 7])∧IC w' a6 0 [])∧Below W.heap.size W w')
  (HH:∀W,Below w.heap.size w W→Calls Tryz.prog 33 #[.slice a n c,.slice a2 n2 c2] W fun e w'=>(e = .returned (.int .i64 19))∧Below W.heap.size W w')
  (HA:∀W,Below w.heap.size w W→Calls Tryz.prog 34 #[.slice a n c] W fun e w'=>(e = .returned (.int .i64 0))∧Below W.heap.size W w')
  (HC:∀W,Below w.heap.size w W→Calls Tryz.prog 35 #[.slice a n c,.slice a2 n2 c2] W fun e w'=>(e = .returned (.int .i64 0))∧Below W.heap.size W w')
  (HV:∀W,Below w.heap.size w W→Calls Tryz.prog 36 #[.slice a n c,.slice a2 n2 c2] W fun e w'=>(e = .returned (.bool false))∧Below W.heap.size W w')
  (HR:∀W,Below w.heap.size w W→Calls Tryz.prog 37 #[.slice a n c] W fun e w'=>(∃a11 c11,e = .returned (.tuple #[.slice a11 m c11,.bool true])∧IC w' a11 m l)∧Below W.heap.size W w')
  : Calls Tryz.prog 5 #[.slice a n c,.slice a2 n2 c2] w fun e w'=>e = .returned (.bool true)∧Below w.heap.size w w':=by
 have HS:=Lib.hid HS
 have HP:=Lib.hid HP
 have HQ:=Lib.hid HQ
 have HH:=Lib.hid HH
 have HA:=Lib.hid HA
 have HC:=Lib.hid HC
 have HV:=Lib.hid HV
 have HR:=Lib.hid HR
 have d60:decide ((60:Int)<(n2:Int))=false:=decide_eq_false h60
 go_enter Tryz.func5,Tryz.ntmps5
 go_upto_region 16 with (first|(go_at_call 30;(with_reducible refine (HS.out _ (by (repeat (first|assumption|exact Below.refl _ _|refine keep_drew ?_|refine keep_alloc ?_ _|refine keep_trans ?_ (by assumption))))).mono ?_);rintro _ w1 ⟨rfl,hb1⟩)|(go_at_call 31;(with_reducible refine (HP.out _ (by (repeat (first|assumption|exact Below.refl _ _|refine keep_drew ?_|refine keep_alloc ?_ _|refine keep_trans ?_ (by assumption))))).mono ?_);rintro _ w5 ⟨⟨a5,c5,rfl,hi5⟩,hb5⟩)|(go_at_call 32;(with_reducible refine (HQ.out _ (by (repeat (first|assumption|exact Below.refl _ _|refine keep_drew ?_|refine keep_alloc ?_ _|refine keep_trans ?_ (by assumption))))).mono ?_);rintro _ w6 ⟨⟨a6,c6,rfl,hi6⟩,hb6⟩)|(go_at_call 33;(with_reducible refine (HH.out _ (by (repeat (first|assumption|exact Below.refl _ _|refine keep_drew ?_|refine keep_alloc ?_ _|refine keep_trans ?_ (by assumption))))).mono ?_);rintro _ w7 ⟨rfl,hb7⟩)|(go_at_call 34;(with_reducible refine (HA.out _ (by (repeat (first|assumption|exact Below.refl _ _|refine keep_drew ?_|refine keep_alloc ?_ _|refine keep_trans ?_ (by assumption))))).mono ?_);rintro _ w8 ⟨rfl,hb8⟩)|(go_at_call 35;(with_reducible refine (HC.out _ (by (repeat (first|assumption|exact Below.refl _ _|refine keep_drew ?_|refine keep_alloc ?_ _|refine keep_trans ?_ (by assumption))))).mono ?_);rintro _ w9 ⟨rfl,hb9⟩)|(go_at_call 36;(with_reducible refine (HV.out _ (by (repeat (first|assumption|exact Below.refl _ _|refine keep_drew ?_|refine keep_alloc ?_ _|refine keep_trans ?_ (by assumption))))).mono ?_);rintro _ w10 ⟨rfl,hb10⟩)|(go_at_call 37;(with_reducible refine (HR.out _ (by (repeat (first|assumption|exact Below.refl _ _|refine keep_drew ?_|refine keep_alloc ?_ _|refine keep_trans ?_ (by assumption))))).mono ?_);rintro _ w11 ⟨⟨a11,c11,rfl,hi11⟩,hb11⟩)|fail)
 have hi5':IC w11 a5 m l:=hi5.mono (by (repeat (first|assumption|exact Below.refl _ _|refine keep_drew ?_|refine keep_alloc ?_ _|refine keep_trans ?_ (by assumption))))
 have HSI:=Lib.hid (fun W (hb:Below w11.heap.size w11 W)=>same_c a5 a11 m m c5 c11 l l W (hi5'.mono hb) (hi11.mono hb))
 rw[show sameB l l=true from decide_eq_true rfl] at HSI
 go_wp2_with (first|(go_at_call 38;(with_reducible refine (HSI.out _ (by (repeat (first|assumption|exact Below.refl _ _|refine keep_drew ?_|refine keep_alloc ?_ _|refine keep_trans ?_ (by assumption))))).mono ?_);rintro _ w12 ⟨rfl,hb12⟩)|(go_at_call 20;refine (awake4_c _).mono ?_;rintro _ wz ⟨rfl,hbz⟩)|fail)
 refine bodyPost_ret (v := .bool true) ?_ rfl ⟨rfl,show Below w.heap.size w wz by (repeat (first|assumption|exact Below.refl _ _|refine keep_drew ?_|refine keep_alloc ?_ _|refine keep_trans ?_ (by assumption)))⟩
 simp[results,Tryz.f5,go_sem]
theorem lrep_z0 (a:Option Addr) (n c:Nat) (a2:Option Addr) (n2 c2:Nat) (w:World) (h60:¬(60:Int)<(n2:Int)) (k:Nat) (h:List Int)
  (HS:∀W,Below w.heap.size w W→Calls Tryz.prog 30 #[.slice a n c] W fun e w'=>(e = .returned (.bool true))∧Below W.heap.size W w')
  (HP:∀W,Below w.heap.size w W→Calls Tryz.prog 31 #[.slice a n c] W fun e w'=>(∃a5 c5,e = .returned (.tuple #[.slice a5 0 c5,.int .i64 21])∧IC w' a5 0 [])∧Below W.heap.size W w')
  (HQ:∀W,Below w.heap.size w W→Calls Tryz.prog 32 #[.slice a n c] W fun e w'=>(∃a6 c6,e = .returned (.tuple #[.slice a6 k c6,.int .i64 0])∧IC w' a6 k h)∧Below W.heap.size W w')
  (HH:∀W,Below w.heap.size w W→Calls Tryz.prog 33 #[.slice a n c,.slice a2 n2 c2] W fun e w'=>(e = .returned (.int .i64 19))∧Below W.heap.size W w')
  (HA:∀W,Below w.heap.size w W→Calls Tryz.prog 34 #[.slice a n c] W fun e w'=>(e = .returned (.int .i64 0))∧Below W.heap.size W w')
  (HC:∀W,Below w.heap.size w W→Calls Tryz.prog 35 #[.slice a n c,.slice a2 n2 c2] W fun e w'=>(e = .returned (.int .i64 0))∧Below W.heap.size W w')
  (HV:∀W,Below w.heap.size w W→Calls Tryz.prog 36 #[.slice a n c,.slice a2 n2 c2] W fun e w'=>(e = .returned (.bool false))∧Below W.heap.size W w')
  (HR:∀W,Below w.heap.size w W→Calls Tryz.prog 37 #[.slice a n c] W fun e w'=>(∃(x:Value),e = .returned (.tuple #[x,.bool false]))∧Below W.heap.size W w')
  (HC2:∀W a6 c6,IC W a6 k h→Below w.heap.size w W→Calls Tryz.prog 35 #[.slice a n c,.slice a6 k c6] W fun e w'=>e = .returned (.int .i64 0)∧Below W.heap.size W w')
  (HV2:∀W a6 c6,IC W a6 k h→Below w.heap.size w W→Calls Tryz.prog 36 #[.slice a n c,.slice a6 k c6] W fun e w'=>e = .returned (.bool true)∧Below W.heap.size W w')
  : Calls Tryz.prog 5 #[.slice a n c,.slice a2 n2 c2] w fun e w'=>e = .returned (.bool true)∧Below w.heap.size w w':=by
 have HS:=Lib.hid HS
 have HP:=Lib.hid HP
 have HQ:=Lib.hid HQ
 have HH:=Lib.hid HH
 have HA:=Lib.hid HA
 have HC:=Lib.hid HC
 have HV:=Lib.hid HV
 have HR:=Lib.hid HR
 have HC2:=Lib.hid HC2
 have HV2:=Lib.hid HV2
 have d60:decide ((60:Int)<(n2:Int))=false:=decide_eq_false h60
 go_enter Tryz.func5,Tryz.ntmps5
 go_upto_region 17 with (first|(go_at_call 30;(with_reducible refine (HS.out _ (by (repeat (first|assumption|exact Below.refl _ _|refine keep_drew ?_|refine keep_alloc ?_ _|refine keep_trans ?_ (by assumption))))).mono ?_);rintro _ w1 ⟨rfl,hb1⟩)|(go_at_call 31;(with_reducible refine (HP.out _ (by (repeat (first|assumption|exact Below.refl _ _|refine keep_drew ?_|refine keep_alloc ?_ _|refine keep_trans ?_ (by assumption))))).mono ?_);rintro _ w5 ⟨⟨a5,c5,rfl,hi5⟩,hb5⟩)|(go_at_call 32;(with_reducible refine (HQ.out _ (by (repeat (first|assumption|exact Below.refl _ _|refine keep_drew ?_|refine keep_alloc ?_ _|refine keep_trans ?_ (by assumption))))).mono ?_);rintro _ w6 ⟨⟨a6,c6,rfl,hi6⟩,hb6⟩)|(go_at_call 33;(with_reducible refine (HH.out _ (by (repeat (first|assumption|exact Below.refl _ _|refine keep_drew ?_|refine keep_alloc ?_ _|refine keep_trans ?_ (by assumption))))).mono ?_);rintro _ w7 ⟨rfl,hb7⟩)|(go_at_call 34;(with_reducible refine (HA.out _ (by (repeat (first|assumption|exact Below.refl _ _|refine keep_drew ?_|refine keep_alloc ?_ _|refine keep_trans ?_ (by assumption))))).mono ?_);rintro _ w8 ⟨rfl,hb8⟩)|(go_at_call 35;(with_reducible refine (HC.out _ (by (repeat (first|assumption|exact Below.refl _ _|refine keep_drew ?_|refine keep_alloc ?_ _|refine keep_trans ?_ (by assumption))))).mono ?_);rintro _ w9 ⟨rfl,hb9⟩)|(go_at_call 36;(with_reducible refine (HV.out _ (by (repeat (first|assumption|exact Below.refl _ _|refine keep_drew ?_|refine keep_alloc ?_ _|refine keep_trans ?_ (by assumption))))).mono ?_);rintro _ w10 ⟨rfl,hb10⟩)|(go_at_call 37;(with_reducible refine (HR.out _ (by (repeat (first|assumption|exact Below.refl _ _|refine keep_drew ?_|refine keep_alloc ?_ _|refine keep_trans ?_ (by assumption))))).mono ?_);rintro _ w11 ⟨⟨x11,rfl⟩,hb11⟩)|fail)
 have HI6:=Lib.hid (show IC w11 a6 k h from hi6.mono (by (repeat (first|assumption|exact Below.refl _ _|refine keep_drew ?_|refine keep_alloc ?_ _|refine keep_trans ?_ (by assumption)))))
 go_wp2_with (first|(go_at_call 35;(with_reducible refine (HC2.out _ _ _ (HI6.out.mono (by (repeat (first|assumption|exact Below.refl _ _|refine keep_drew ?_|refine keep_alloc ?_ _|refine keep_trans ?_ (by assumption))))) (by (repeat (first|assumption|exact Below.refl _ _|refine keep_drew ?_|refine keep_alloc ?_ _|refine keep_trans ?_ (by assumption))))).mono ?_);rintro _ w12 ⟨rfl,hb12⟩)|(go_at_call 36;(with_reducible refine (HV2.out _ _ _ (HI6.out.mono (by (repeat (first|assumption|exact Below.refl _ _|refine keep_drew ?_|refine keep_alloc ?_ _|refine keep_trans ?_ (by assumption))))) (by (repeat (first|assumption|exact Below.refl _ _|refine keep_drew ?_|refine keep_alloc ?_ _|refine keep_trans ?_ (by assumption))))).mono ?_);rintro _ w13 ⟨rfl,hb13⟩)|(go_at_call 20;refine (awake4_c _).mono ?_;rintro _ wz ⟨rfl,hbz⟩)|fail)
 refine bodyPost_ret (v := .bool true) ?_ rfl ⟨rfl,show Below w.heap.size w wz by (repeat (first|assumption|exact Below.refl _ _|refine keep_drew ?_|refine keep_alloc ?_ _|refine keep_trans ?_ (by assumption)))⟩
 simp[results,Tryz.f5,go_sem]
theorem ints_ic {w:World} {l:List Int} {er:Int} {e:Ending} {w':World} (h:IntsE w l er e w') (hl:l.length≤17592186044416):∃a c,e = .returned (.tuple #[.slice a l.length c,.int .i64 er])∧IC w' a l.length l∧Below w.heap.size w w':=by
 obtain ⟨a,c,h1,h2,h3⟩:=h
 exact ⟨a,c,h1,(IC.of_owns h2 hl).1,h3⟩
theorem lrepresents_c (a:Option Addr) (n c:Nat) (sets:List (List Int)) (a2:Option Addr) (n2 c2:Nat) (ch:List Int) (w:World) (h:RC w a n sets) (_hc:n≤c) (h2:IC w a2 n2 ch) (_hc2:n2≤c2):Calls Tryz.prog 5 #[.slice a n c,.slice a2 n2 c2] w fun e w'=>e = .returned (.bool true)∧Below w.heap.size w w':=by
 have HS:=fun W (hb:Below w.heap.size w W)=>lshort_c a n c sets W (h.mono hb)
 cases hs:fewSB sets with
 | false =>
  rw[hs] at HS
  exact lrep_a a n c a2 n2 c2 w HS
 | true =>
  rw[hs] at HS
  by_cases h60:(60:Int)<(n2:Int)
  ·exact lrep_b a n c a2 n2 c2 w h60 HS
  have HP:=fun W (hb:Below w.heap.size w W)=>represent_c a n c sets W (h.mono hb)
  have HQ:=fun W (hb:Below w.heap.size w W)=>hall_c a n c sets W (h.mono hb)
  have HH:=fun W (hb:Below w.heap.size w W)=>checkhall_c a n c sets a2 n2 c2 ch W (h.mono hb) (h2.mono hb)
  have HA:=fun W (hb:Below w.heap.size w W)=>rcsets_c a n c sets W (h.mono hb)
  by_cases h0:stE sets=0
  ·have hB:=(stE_ok h0).1
   have h32:sets.length≤32:=hB.few
   have hfl:=hB.ok.few.2
   have hln:=h.len
   have hlc:=h2.len
   have HC:=fun W (hb:Below w.heap.size w W)=>rchosen_c a n c a2 n2 c2 ch W (h2.mono hb)
   have HR:=fun W (hb:Below w.heap.size w W)=>rRepresent_c a n c sets W (h.mono hb) (by omega)
   rw[← rpO_eq] at HR
   rw[h0] at HA
   have hcE:chE sets ch=if choE n ch=0 then whenV (decide (n2≤(keysI (uniTo sets ch n2)).length)) 19 else choE n ch:=by
    unfold chE
    rw[if_pos h0,hln,hlc]
   rcases rp_ha sets with ⟨l,g,e1,e2,e3⟩|⟨A,e1,e2,V,hA⟩
   ·have hL:rpL sets=l:=by unfold rpL;rw[if_pos h0,e1];rfl
    have hE:rpE sets=0:=by unfold rpE;rw[if_pos h0,e1];rfl
    have hL2:haL sets=[]:=by unfold haL;rw[if_pos h0,e2]
    have hE2:haE sets=7:=by unfold haE;rw[if_pos h0,e2]
    rw[hL,hE] at HP
    rw[hL2,hE2] at HQ
    rw[e1] at HR
    have hll:=e3.len
    have HP2:=fun W (hb:Below w.heap.size w W)=>(HP W hb).mono fun e w' hg=>ints_ic hg (by omega)
    have HQ2:=fun W (hb:Below w.heap.size w W)=>(HQ W hb).mono fun e w' hg=>ints_ic hg (by simp)
    have HR2:∀W,Below w.heap.size w W→Calls Tryz.prog 37 #[.slice a n c] W fun e w'=>(∃a11 c11,e = .returned (.tuple #[.slice a11 l.length c11,.bool true])∧IC w' a11 l.length l)∧Below W.heap.size W w':=fun W hb=>(HR W hb).mono fun e w' hg=>by
     obtain ⟨a9,c9,g1,g2,g3⟩:=hg
     exact ⟨⟨a9,c9,g1,g2⟩,g3⟩
    have HP3:∀W,Below w.heap.size w W→Calls Tryz.prog 31 #[.slice a n c] W fun e w'=>(∃a5 c5,e = .returned (.tuple #[.slice a5 l.length c5,.int .i64 0])∧IC w' a5 l.length l)∧Below W.heap.size W w':=fun W hb=>(HP2 W hb).mono fun e w' hg=>by
     obtain ⟨a9,c9,g1,g2,g3⟩:=hg
     exact ⟨⟨a9,c9,g1,g2⟩,g3⟩
    have HQ3:∀W,Below w.heap.size w W→Calls Tryz.prog 32 #[.slice a n c] W fun e w'=>(∃a6 c6,e = .returned (.tuple #[.slice a6 0 c6,.int .i64 7])∧IC w' a6 0 [])∧Below W.heap.size W w':=fun W hb=>(HQ2 W hb).mono fun e w' hg=>by
     obtain ⟨a9,c9,g1,g2,g3⟩:=hg
     exact ⟨⟨a9,c9,g1,g2⟩,g3⟩
    by_cases hc:choE n ch=0
    ·have HV:=fun W (hb:Below w.heap.size w W)=>rviol_c a n c sets a2 n2 c2 ch W (h.mono hb) (h2.mono hb) hfl hc
     rw[if_pos hc] at hcE
     rw[hc] at HC
     by_cases hk:(keysI (uniTo sets ch n2)).length<n2
     ·rw[decide_eq_false (show ¬n2≤(keysI (uniTo sets ch n2)).length by omega)] at hcE
      rw[decide_eq_true hk] at HV
      rw[show chE sets ch=0 from hcE] at HH
      exact lrep_y1 a n c a2 n2 c2 w h60 l.length l HS HP3 HQ3 HH HA HC HV HR2
     ·rw[decide_eq_true (show n2≤(keysI (uniTo sets ch n2)).length by omega)] at hcE
      rw[decide_eq_false hk] at HV
      rw[show chE sets ch=19 from hcE] at HH
      exact lrep_z1 a n c a2 n2 c2 w h60 l.length l HS HP3 HQ3 HH HA HC HV HR2
    ·rw[if_neg hc] at hcE
     rw[hcE] at HH
     exact lrep_x1 a n c a2 n2 c2 w h60 _ hc l.length l HS HP3 HQ3 HH HA HC HR2
   ·have hL:rpL sets=[]:=by unfold rpL;rw[if_pos h0,e1];rfl
    have hE:rpE sets=21:=by unfold rpE;rw[if_pos h0,e1];rfl
    have hL2:haL sets=vioL A:=by unfold haL;rw[if_pos h0,e2]
    have hE2:haE sets=0:=by unfold haE;rw[if_pos h0,e2]
    rw[hL,hE] at HP
    rw[hL2,hE2] at HQ
    rw[e1] at HR
    have hvl:(vioL A).length≤17592186044416:=by
     have h1:(vioL A).length≤(List.range sets.length).length:=by
      rw[vioL_len]
      exact nodupA_le V.nodup (fun t ht=>List.mem_range.2 (V.lt t ht))
     rw[List.length_range] at h1
     omega
    have HP3:∀W,Below w.heap.size w W→Calls Tryz.prog 31 #[.slice a n c] W fun e w'=>(∃a5 c5,e = .returned (.tuple #[.slice a5 0 c5,.int .i64 21])∧IC w' a5 0 [])∧Below W.heap.size W w':=fun W hb=>(HP W hb).mono fun e w' hg=>by
     obtain ⟨a9,c9,g1,g2,g3⟩:=ints_ic hg (by simp)
     exact ⟨⟨a9,c9,g1,g2⟩,g3⟩
    have HQ3:∀W,Below w.heap.size w W→Calls Tryz.prog 32 #[.slice a n c] W fun e w'=>(∃a6 c6,e = .returned (.tuple #[.slice a6 (vioL A).length c6,.int .i64 0])∧IC w' a6 (vioL A).length (vioL A))∧Below W.heap.size W w':=fun W hb=>(HQ W hb).mono fun e w' hg=>by
     obtain ⟨a9,c9,g1,g2,g3⟩:=ints_ic hg hvl
     exact ⟨⟨a9,c9,g1,g2⟩,g3⟩
    have HR2:∀W,Below w.heap.size w W→Calls Tryz.prog 37 #[.slice a n c] W fun e w'=>(∃x:Value,e = .returned (.tuple #[x,.bool false]))∧Below W.heap.size W w':=fun W hb=>(HR W hb).mono fun e w' hg=>⟨⟨_,hg.1⟩,hg.2⟩
    have hvc:=vio_cho V
    rw[hln] at hvc
    have hvf:=vio_few V
    have HC2:∀W a6 c6,IC W a6 (vioL A).length (vioL A)→Below w.heap.size w W→Calls Tryz.prog 35 #[.slice a n c,.slice a6 (vioL A).length c6] W fun e w'=>e = .returned (.int .i64 0)∧Below W.heap.size W w':=fun W a6 c6 hi hb=>by
     have:=rchosen_c a n c a6 (vioL A).length c6 (vioL A) W hi
     rw[hvc] at this
     exact this
    have HV2:∀W a6 c6,IC W a6 (vioL A).length (vioL A)→Below w.heap.size w W→Calls Tryz.prog 36 #[.slice a n c,.slice a6 (vioL A).length c6] W fun e w'=>e = .returned (.bool true)∧Below W.heap.size W w':=fun W a6 c6 hi hb=>by
     have:=rviol_c a n c sets a6 (vioL A).length c6 (vioL A) W (h.mono hb) hi hfl hvc
     rw[decide_eq_true hvf] at this
     exact this
    by_cases hc:choE n ch=0
    ·have HV:=fun W (hb:Below w.heap.size w W)=>rviol_c a n c sets a2 n2 c2 ch W (h.mono hb) (h2.mono hb) hfl hc
     rw[if_pos hc] at hcE
     rw[hc] at HC
     by_cases hk:(keysI (uniTo sets ch n2)).length<n2
     ·rw[decide_eq_false (show ¬n2≤(keysI (uniTo sets ch n2)).length by omega)] at hcE
      rw[decide_eq_true hk] at HV
      rw[show chE sets ch=0 from hcE] at HH
      exact lrep_y0 a n c a2 n2 c2 w h60 _ _ HS HP3 HQ3 HH HA HC HV HR2 HC2 HV2
     ·rw[decide_eq_true (show n2≤(keysI (uniTo sets ch n2)).length by omega)] at hcE
      rw[decide_eq_false hk] at HV
      rw[show chE sets ch=19 from hcE] at HH
      exact lrep_z0 a n c a2 n2 c2 w h60 _ _ HS HP3 HQ3 HH HA HC HV HR2 HC2 HV2
    ·rw[if_neg hc] at hcE
     rw[hcE] at HH
     exact lrep_x0 a n c a2 n2 c2 w h60 _ hc _ _ HS HP3 HQ3 HH HA HC HR2 HC2 HV2
  ·have hL:rpL sets=[]:=if_neg h0
   have hE:rpE sets=stE sets:=if_neg h0
   have hL2:haL sets=[]:=if_neg h0
   have hE2:haE sets=stE sets:=if_neg h0
   have hE3:chE sets ch=stE sets:=if_neg h0
   rw[hL,hE] at HP
   rw[hL2,hE2] at HQ
   rw[hE3] at HH
   have HP3:∀W,Below w.heap.size w W→Calls Tryz.prog 31 #[.slice a n c] W fun e w'=>(∃a5 c5,e = .returned (.tuple #[.slice a5 0 c5,.int .i64 (stE sets)])∧IC w' a5 0 [])∧Below W.heap.size W w':=fun W hb=>(HP W hb).mono fun e w' hg=>by
    obtain ⟨a9,c9,g1,g2,g3⟩:=ints_ic hg (by simp)
    exact ⟨⟨a9,c9,g1,g2⟩,g3⟩
   have HQ3:∀W,Below w.heap.size w W→Calls Tryz.prog 32 #[.slice a n c] W fun e w'=>(∃a6 c6,e = .returned (.tuple #[.slice a6 0 c6,.int .i64 (stE sets)])∧IC w' a6 0 [])∧Below W.heap.size W w':=fun W hb=>(HQ W hb).mono fun e w' hg=>by
    obtain ⟨a9,c9,g1,g2,g3⟩:=ints_ic hg (by simp)
    exact ⟨⟨a9,c9,g1,g2⟩,g3⟩
   exact lrep_c a n c a2 n2 c2 w h60 _ h0 HS HP3 HQ3 HH HA
end
end Go.Proofs.YtmfpdakaeagdpaaGreat
