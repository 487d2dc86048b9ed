/- Texts J129 to J129 of this proof, in one file. -/
import Derived.Test.YtmfpdakaeagdpaaGreatW01
import Derived.Test.YtmfpdakaeagdpaaGreatW02
import Derived.Test.YtmfpdakaeagdpaaGreatW03
import Derived.Test.YtmfpdakaeagdpaaGreatW04
import Derived.Test.YtmfpdakaeagdpaaGreatW05
import Derived.Test.YtmfpdakaeagdpaaGreatW06
import Derived.Test.YtmfpdakaeagdpaaGreatW07
import Derived.Test.YtmfpdakaeagdpaaGreatW08
import Derived.Test.YtmfpdakaeagdpaaGreatW09
import Derived.Test.YtmfpdakaeagdpaaGreatW10
import Derived.Test.YtmfpdakaeagdpaaGreatW11
import Derived.Test.YtmfpdakaeagdpaaGreatW12
import Derived.Test.YtmfpdakaeagdpaaGreatW13
import Derived.Test.YtmfpdakaeagdpaaGreatW14
import Derived.Test.YtmfpdakaeagdpaaGreatW15
import Derived.Test.YtmfpdakaeagdpaaGreatW16
import Derived.Test.YtmfpdakaeagdpaaGreatW17
import Derived.Test.YtmfpdakaeagdpaaGreatW18
import Derived.Test.YtmfpdakaeagdpaaGreatW19
import Derived.Test.YtmfpdakaeagdpaaGreatW20
import Derived.Test.YtmfpdakaeagdpaaGreatW21
import Derived.Test.YtmfpdakaeagdpaaGreatW22
import Derived.Test.YtmfpdakaeagdpaaGreatW23
import Derived.Test.YtmfpdakaeagdpaaGreatW24
import Derived.Test.YtmfpdakaeagdpaaGreatW25
import Derived.Test.YtmfpdakaeagdpaaGreatW26
import Derived.Test.YtmfpdakaeagdpaaGreatW27
import Derived.Test.YtmfpdakaeagdpaaGreatX21n01
import Derived.Test.YtmfpdakaeagdpaaGreatX21n02
import Derived.Below
import Derived.BigFrame
import Derived.BigQuiet
import Derived.Deep.CutBlock
import Derived.Deep.CutRange
import Derived.Deep.LoopGhost
import Derived.Deep.Quiet
import Derived.Deep.RegionHeld3
import Derived.DeepKeys4
import Derived.KernelRfl
import Derived.Laws.BitsAllLaws
import Derived.Laws.EntriesVeiled
import Derived.Lib.AppendZeros
import Derived.Lib.Hide
import Derived.Lib.SlKeysI
import Derived.Lib.SliceRun
import Derived.LoopIn
import Derived.LoopNIn
import Derived.Maps.AppendAt
import Derived.Maps.OwnIn
import Derived.Maps.OwnSet
import Derived.OneCell
import Derived.OrdersHeld
import Derived.OrdersIn
import Derived.OwnWalkIn
import Derived.RangeFuncBound
import Derived.RangeFuncBox
import Derived.RangeFuncCalls
import Derived.RangeFuncLeaves
import Derived.RangeFuncNested
import Derived.RangeFuncWrites
import Derived.Shelf.Abstract
import Derived.Shelf.SortM.Plain
import Derived.Still
import Derived.TacticsIn
import Derived.TacticsInMore
import Derived.Test.YtmfpdakaeagdpaaGreatProg
import Derived.WalkKit
import Derived.WalkLawsBesides
import Derived.WalkSpells
import Derived.WideKeyPair
namespace Go.Proofs.YtmfpdakaeagdpaaGreat
set_option maxRecDepth 100000
set_option maxHeartbeats 16000000
section
open Go Go.RowKit
attribute [local go_sem] over_cell
attribute [local go_sem] Oper.semAt_some
theorem lcompl_g (r C:Int) (a:Option Addr) (n c:Nat) (lim:Int) (w:World) (hg:300<n):Calls Tryz.prog 4 #[.agg #[.int .i64 r,.int .i64 C,.slice a n c],.int .i64 lim] w fun e w'=>e = .returned (.bool true)∧Below w.heap.size w w':=by
 have hgI:decide ((300:Int)<(n:Int))=true:=decide_eq_true (by omega)
 go_enter Tryz.func4,Tryz.ntmps4
 go_upto_region 1 with fail
 have fsz:(w.alloc (.cells #[.int .i64 r,.int .i64 C,.slice a n c] 24)).heap.size=w.heap.size+1:=by simp only[World.size_alloc]
 have fB:Below w.heap.size w (w.alloc (.cells #[.int .i64 r,.int .i64 C,.slice a n c] 24)):=(Below.refl _ _).alloc (Nat.le_refl _) _
 have fq0:(w.alloc (.cells #[.int .i64 r,.int .i64 C,.slice a n c] 24)).heap[w.heap.size]?=some (.cells #[.int .i64 r,.int .i64 C,.slice a n c] 24 (0,0)):=by have h:=World.alloc_heap_new w (.cells #[.int .i64 r,.int .i64 C,.slice a n c] 24);exact h
 generalize (w.alloc (.cells #[.int .i64 r,.int .i64 C,.slice a n c] 24))=W0 at fsz fB fq0 ⊢
 have Q0:=Lib.hid fq0
 have FB:=Lib.hid fB
 obtain ⟨x0,x1,x2,xl⟩:=c3_of fq0
 clear fq0 fsz fB
 go_wp2_with (first|(go_at_call 19;refine (lgreat_c _ _ _ _ _ 300 _).mono ?_;rintro _ w1 ⟨rfl,hbw1⟩;have hkw1:Below W0.heap.size W0 w1:=(by (repeat (first|assumption|exact Below.refl _ _|refine keep_drew ?_|refine keep_alloc ?_ _|refine keep_trans ?_ (by assumption))));obtain ⟨xw10,xw11,xw12,xw1l⟩:=c3_of (keepq hkw1 Q0.out))|(go_at_call 20;refine (awake4_c _).mono ?_;rintro _ wz ⟨rfl,hbz⟩)|fail)
 refine bodyPost_ret (v := .bool true) ?_ rfl ⟨rfl,keep_trans FB.out (show Below W0.heap.size W0 wz by (repeat (first|assumption|exact Below.refl _ _|refine keep_drew ?_|refine keep_alloc ?_ _|refine keep_trans ?_ (by assumption))))⟩
 simp[results,Tryz.f4,go_sem]
theorem lcompl_a (r C:Int) (a:Option Addr) (n c:Nat) (lim:Int) (w:World) (hg0:¬300<n) (ea:Int) (h0:(ea==0)=false)
  (HA:∀W,Below w.heap.size w W→Calls Tryz.prog 25 #[.agg #[.int .i64 r,.int .i64 C,.slice a n c]] W fun e w'=>e = .returned (.int .i64 ea)∧Below W.heap.size W w')
  (N:Nat) (css:List (List Int)) (HP:∀W,Below w.heap.size w W→Calls Tryz.prog 27 #[.agg #[.int .i64 r,.int .i64 C,.slice a n c],.int .i64 lim] W fun e w'=>∃a5 c5,e = .returned (.tuple #[.slice a5 0 c5,.int .i64 ea])∧GL w' a5 0 N css∧Below W.heap.size W w')
  : Calls Tryz.prog 4 #[.agg #[.int .i64 r,.int .i64 C,.slice a n c],.int .i64 lim] w fun e w'=>e = .returned (.bool true)∧Below w.heap.size w w':=by
 have hgI0:decide ((300:Int)<(n:Int))=false:=decide_eq_false (by omega)
 have HA:=Lib.hid HA
 have HP:=Lib.hid HP
 have e2:(ea==ea)=true:=by simp
 go_enter Tryz.func4,Tryz.ntmps4
 go_upto_region 1 with fail
 have fsz:(w.alloc (.cells #[.int .i64 r,.int .i64 C,.slice a n c] 24)).heap.size=w.heap.size+1:=by simp only[World.size_alloc]
 have fB:Below w.heap.size w (w.alloc (.cells #[.int .i64 r,.int .i64 C,.slice a n c] 24)):=(Below.refl _ _).alloc (Nat.le_refl _) _
 have fq0:(w.alloc (.cells #[.int .i64 r,.int .i64 C,.slice a n c] 24)).heap[w.heap.size]?=some (.cells #[.int .i64 r,.int .i64 C,.slice a n c] 24 (0,0)):=by have h:=World.alloc_heap_new w (.cells #[.int .i64 r,.int .i64 C,.slice a n c] 24);exact h
 generalize (w.alloc (.cells #[.int .i64 r,.int .i64 C,.slice a n c] 24))=W0 at fsz fB fq0 ⊢
 have Q0:=Lib.hid fq0
 have FB:=Lib.hid fB
 obtain ⟨x0,x1,x2,xl⟩:=c3_of fq0
 clear fq0 fsz fB
 go_upto_region 12 with (first|(go_at_call 19;(with_reducible refine (lgreat_c r C a n c 300 _).mono ?_);rintro _ w1 ⟨rfl,hbw1⟩;have hkw1:Below W0.heap.size W0 w1:=(by (repeat (first|assumption|exact Below.refl _ _|refine keep_drew ?_|refine keep_alloc ?_ _|refine keep_trans ?_ (by assumption))));obtain ⟨xw10,xw11,xw12,xw1l⟩:=c3_of (keepq hkw1 Q0.out))|(go_at_call 25;(with_reducible refine (HA.out _ (keep_trans FB.out (by (repeat (first|assumption|exact Below.refl _ _|refine keep_drew ?_|refine keep_alloc ?_ _|refine keep_trans ?_ (by assumption)))))).mono ?_);rintro _ w2 ⟨rfl,hbw2⟩;have hkw2:Below W0.heap.size W0 w2:=(by (repeat (first|assumption|exact Below.refl _ _|refine keep_drew ?_|refine keep_alloc ?_ _|refine keep_trans ?_ (by assumption))));obtain ⟨xw20,xw21,xw22,xw2l⟩:=c3_of (keepq hkw2 Q0.out))|(go_at_call 27;(with_reducible refine (HP.out _ (keep_trans FB.out (by (repeat (first|assumption|exact Below.refl _ _|refine keep_drew ?_|refine keep_alloc ?_ _|refine keep_trans ?_ (by assumption)))))).mono ?_);rintro _ w5 ⟨a5,c5,rfl,hi5,hbw5⟩;have hkw5:Below W0.heap.size W0 w5:=(by (repeat (first|assumption|exact Below.refl _ _|refine keep_drew ?_|refine keep_alloc ?_ _|refine keep_trans ?_ (by assumption))));obtain ⟨xw50,xw51,xw52,xw5l⟩:=c3_of (keepq hkw5 Q0.out))|fail)
 have hB5:Below W0.heap.size W0 w5:=by (repeat (first|assumption|exact Below.refl _ _|refine keep_drew ?_|refine keep_alloc ?_ _|refine keep_trans ?_ (by assumption)))
 have HB5:=Lib.hid hB5
 have HI5:=Lib.hid hi5
 have HGR:=Lib.hid (fun W (hb:Below w5.heap.size w5 W)=>lgrids_t a5 0 c5 N css none 0 W (HI5.out.below hb) (show GL W none 0 N css from ⟨HI5.out.1,fun k hk=>absurd hk (by omega)⟩) (by omega))
 go_wp2_with (first|(go_at_call 29;(with_reducible refine (HGR.out _ (by (repeat (first|assumption|exact Below.refl _ _|refine keep_drew ?_|refine keep_alloc ?_ _|refine keep_trans ?_ (by assumption))))).mono ?_);rintro _ w7 ⟨rfl,hbw7⟩)|(go_at_call 20;refine (awake4_c _).mono ?_;rintro _ wz ⟨rfl,hbz⟩)|fail)
 refine bodyPost_ret (v := .bool true) ?_ rfl ⟨rfl,keep_trans (keep_trans FB.out HB5.out) (show Below w5.heap.size w5 wz by (repeat (first|assumption|exact Below.refl _ _|refine keep_drew ?_|refine keep_alloc ?_ _|refine keep_trans ?_ (by assumption))))⟩
 simp[results,Tryz.f4,go_sem]
theorem lcompl_b (r C:Int) (a:Option Addr) (n c:Nat) (lim:Int) (w:World) (hg0:¬300<n) (h0:decide (lim<1)=true)
  (HA:∀W,Below w.heap.size w W→Calls Tryz.prog 25 #[.agg #[.int .i64 r,.int .i64 C,.slice a n c]] W fun e w'=>e = .returned (.int .i64 0)∧Below W.heap.size W w')
  (N:Nat) (css:List (List Int)) (HP:∀W,Below w.heap.size w W→Calls Tryz.prog 27 #[.agg #[.int .i64 r,.int .i64 C,.slice a n c],.int .i64 lim] W fun e w'=>∃a5 c5,e = .returned (.tuple #[.slice a5 0 c5,.int .i64 3])∧GL w' a5 0 N css∧Below W.heap.size W w')
  : Calls Tryz.prog 4 #[.agg #[.int .i64 r,.int .i64 C,.slice a n c],.int .i64 lim] w fun e w'=>e = .returned (.bool true)∧Below w.heap.size w w':=by
 have hgI0:decide ((300:Int)<(n:Int))=false:=decide_eq_false (by omega)
 have HA:=Lib.hid HA
 have HP:=Lib.hid HP
 go_enter Tryz.func4,Tryz.ntmps4
 go_upto_region 1 with fail
 have fsz:(w.alloc (.cells #[.int .i64 r,.int .i64 C,.slice a n c] 24)).heap.size=w.heap.size+1:=by simp only[World.size_alloc]
 have fB:Below w.heap.size w (w.alloc (.cells #[.int .i64 r,.int .i64 C,.slice a n c] 24)):=(Below.refl _ _).alloc (Nat.le_refl _) _
 have fq0:(w.alloc (.cells #[.int .i64 r,.int .i64 C,.slice a n c] 24)).heap[w.heap.size]?=some (.cells #[.int .i64 r,.int .i64 C,.slice a n c] 24 (0,0)):=by have h:=World.alloc_heap_new w (.cells #[.int .i64 r,.int .i64 C,.slice a n c] 24);exact h
 generalize (w.alloc (.cells #[.int .i64 r,.int .i64 C,.slice a n c] 24))=W0 at fsz fB fq0 ⊢
 have Q0:=Lib.hid fq0
 have FB:=Lib.hid fB
 obtain ⟨x0,x1,x2,xl⟩:=c3_of fq0
 clear fq0 fsz fB
 go_upto_region 12 with (first|(go_at_call 19;(with_reducible refine (lgreat_c r C a n c 300 _).mono ?_);rintro _ w1 ⟨rfl,hbw1⟩;have hkw1:Below W0.heap.size W0 w1:=(by (repeat (first|assumption|exact Below.refl _ _|refine keep_drew ?_|refine keep_alloc ?_ _|refine keep_trans ?_ (by assumption))));obtain ⟨xw10,xw11,xw12,xw1l⟩:=c3_of (keepq hkw1 Q0.out))|(go_at_call 25;(with_reducible refine (HA.out _ (keep_trans FB.out (by (repeat (first|assumption|exact Below.refl _ _|refine keep_drew ?_|refine keep_alloc ?_ _|refine keep_trans ?_ (by assumption)))))).mono ?_);rintro _ w2 ⟨rfl,hbw2⟩;have hkw2:Below W0.heap.size W0 w2:=(by (repeat (first|assumption|exact Below.refl _ _|refine keep_drew ?_|refine keep_alloc ?_ _|refine keep_trans ?_ (by assumption))));obtain ⟨xw20,xw21,xw22,xw2l⟩:=c3_of (keepq hkw2 Q0.out))|(go_at_call 27;(with_reducible refine (HP.out _ (keep_trans FB.out (by (repeat (first|assumption|exact Below.refl _ _|refine keep_drew ?_|refine keep_alloc ?_ _|refine keep_trans ?_ (by assumption)))))).mono ?_);rintro _ w5 ⟨a5,c5,rfl,hi5,hbw5⟩;have hkw5:Below W0.heap.size W0 w5:=(by (repeat (first|assumption|exact Below.refl _ _|refine keep_drew ?_|refine keep_alloc ?_ _|refine keep_trans ?_ (by assumption))));obtain ⟨xw50,xw51,xw52,xw5l⟩:=c3_of (keepq hkw5 Q0.out))|fail)
 have hB5:Below W0.heap.size W0 w5:=by (repeat (first|assumption|exact Below.refl _ _|refine keep_drew ?_|refine keep_alloc ?_ _|refine keep_trans ?_ (by assumption)))
 have HB5:=Lib.hid hB5
 have HI5:=Lib.hid hi5
 have HGR:=Lib.hid (fun W (hb:Below w5.heap.size w5 W)=>lgrids_t a5 0 c5 N css none 0 W (HI5.out.below hb) (show GL W none 0 N css from ⟨HI5.out.1,fun k hk=>absurd hk (by omega)⟩) (by omega))
 go_wp2_with (first|(go_at_call 29;(with_reducible refine (HGR.out _ (by (repeat (first|assumption|exact Below.refl _ _|refine keep_drew ?_|refine keep_alloc ?_ _|refine keep_trans ?_ (by assumption))))).mono ?_);rintro _ w7 ⟨rfl,hbw7⟩)|(go_at_call 20;refine (awake4_c _).mono ?_;rintro _ wz ⟨rfl,hbz⟩)|fail)
 refine bodyPost_ret (v := .bool true) ?_ rfl ⟨rfl,keep_trans (keep_trans FB.out HB5.out) (show Below w5.heap.size w5 wz by (repeat (first|assumption|exact Below.refl _ _|refine keep_drew ?_|refine keep_alloc ?_ _|refine keep_trans ?_ (by assumption))))⟩
 simp[results,Tryz.f4,go_sem]
theorem lcompl_c (r C:Int) (a:Option Addr) (n c:Nat) (lim:Int) (w:World) (hg0:¬300<n) (h0:decide (lim<1)=false) (h1:decide (256<lim)=true)
  (HA:∀W,Below w.heap.size w W→Calls Tryz.prog 25 #[.agg #[.int .i64 r,.int .i64 C,.slice a n c]] W fun e w'=>e = .returned (.int .i64 0)∧Below W.heap.size W w')
  (N:Nat) (css:List (List Int)) (HP:∀W,Below w.heap.size w W→Calls Tryz.prog 27 #[.agg #[.int .i64 r,.int .i64 C,.slice a n c],.int .i64 lim] W fun e w'=>∃a5 c5,e = .returned (.tuple #[.slice a5 0 c5,.int .i64 3])∧GL w' a5 0 N css∧Below W.heap.size W w')
  : Calls Tryz.prog 4 #[.agg #[.int .i64 r,.int .i64 C,.slice a n c],.int .i64 lim] w fun e w'=>e = .returned (.bool true)∧Below w.heap.size w w':=by
 have hgI0:decide ((300:Int)<(n:Int))=false:=decide_eq_false (by omega)
 have HA:=Lib.hid HA
 have HP:=Lib.hid HP
 go_enter Tryz.func4,Tryz.ntmps4
 go_upto_region 1 with fail
 have fsz:(w.alloc (.cells #[.int .i64 r,.int .i64 C,.slice a n c] 24)).heap.size=w.heap.size+1:=by simp only[World.size_alloc]
 have fB:Below w.heap.size w (w.alloc (.cells #[.int .i64 r,.int .i64 C,.slice a n c] 24)):=(Below.refl _ _).alloc (Nat.le_refl _) _
 have fq0:(w.alloc (.cells #[.int .i64 r,.int .i64 C,.slice a n c] 24)).heap[w.heap.size]?=some (.cells #[.int .i64 r,.int .i64 C,.slice a n c] 24 (0,0)):=by have h:=World.alloc_heap_new w (.cells #[.int .i64 r,.int .i64 C,.slice a n c] 24);exact h
 generalize (w.alloc (.cells #[.int .i64 r,.int .i64 C,.slice a n c] 24))=W0 at fsz fB fq0 ⊢
 have Q0:=Lib.hid fq0
 have FB:=Lib.hid fB
 obtain ⟨x0,x1,x2,xl⟩:=c3_of fq0
 clear fq0 fsz fB
 go_upto_region 12 with (first|(go_at_call 19;(with_reducible refine (lgreat_c r C a n c 300 _).mono ?_);rintro _ w1 ⟨rfl,hbw1⟩;have hkw1:Below W0.heap.size W0 w1:=(by (repeat (first|assumption|exact Below.refl _ _|refine keep_drew ?_|refine keep_alloc ?_ _|refine keep_trans ?_ (by assumption))));obtain ⟨xw10,xw11,xw12,xw1l⟩:=c3_of (keepq hkw1 Q0.out))|(go_at_call 25;(with_reducible refine (HA.out _ (keep_trans FB.out (by (repeat (first|assumption|exact Below.refl _ _|refine keep_drew ?_|refine keep_alloc ?_ _|refine keep_trans ?_ (by assumption)))))).mono ?_);rintro _ w2 ⟨rfl,hbw2⟩;have hkw2:Below W0.heap.size W0 w2:=(by (repeat (first|assumption|exact Below.refl _ _|refine keep_drew ?_|refine keep_alloc ?_ _|refine keep_trans ?_ (by assumption))));obtain ⟨xw20,xw21,xw22,xw2l⟩:=c3_of (keepq hkw2 Q0.out))|(go_at_call 27;(with_reducible refine (HP.out _ (keep_trans FB.out (by (repeat (first|assumption|exact Below.refl _ _|refine keep_drew ?_|refine keep_alloc ?_ _|refine keep_trans ?_ (by assumption)))))).mono ?_);rintro _ w5 ⟨a5,c5,rfl,hi5,hbw5⟩;have hkw5:Below W0.heap.size W0 w5:=(by (repeat (first|assumption|exact Below.refl _ _|refine keep_drew ?_|refine keep_alloc ?_ _|refine keep_trans ?_ (by assumption))));obtain ⟨xw50,xw51,xw52,xw5l⟩:=c3_of (keepq hkw5 Q0.out))|fail)
 have hB5:Below W0.heap.size W0 w5:=by (repeat (first|assumption|exact Below.refl _ _|refine keep_drew ?_|refine keep_alloc ?_ _|refine keep_trans ?_ (by assumption)))
 have HB5:=Lib.hid hB5
 have HI5:=Lib.hid hi5
 have HGR:=Lib.hid (fun W (hb:Below w5.heap.size w5 W)=>lgrids_t a5 0 c5 N css none 0 W (HI5.out.below hb) (show GL W none 0 N css from ⟨HI5.out.1,fun k hk=>absurd hk (by omega)⟩) (by omega))
 go_wp2_with (first|(go_at_call 29;(with_reducible refine (HGR.out _ (by (repeat (first|assumption|exact Below.refl _ _|refine keep_drew ?_|refine keep_alloc ?_ _|refine keep_trans ?_ (by assumption))))).mono ?_);rintro _ w7 ⟨rfl,hbw7⟩)|(go_at_call 20;refine (awake4_c _).mono ?_;rintro _ wz ⟨rfl,hbz⟩)|fail)
 refine bodyPost_ret (v := .bool true) ?_ rfl ⟨rfl,keep_trans (keep_trans FB.out HB5.out) (show Below w5.heap.size w5 wz by (repeat (first|assumption|exact Below.refl _ _|refine keep_drew ?_|refine keep_alloc ?_ _|refine keep_trans ?_ (by assumption))))⟩
 simp[results,Tryz.f4,go_sem]
theorem lcompl_d (r C:Int) (a:Option Addr) (n c:Nat) (lim:Int) (w:World) (hg0:¬300<n) (h0:decide (lim<1)=false) (h1:decide (256<lim)=false) (h2:decide (7<r)=true)
  (HA:∀W,Below w.heap.size w W→Calls Tryz.prog 25 #[.agg #[.int .i64 r,.int .i64 C,.slice a n c]] W fun e w'=>e = .returned (.int .i64 0)∧Below W.heap.size W w')
  (N:Nat) (css:List (List Int)) (HP:∀W,Below w.heap.size w W→Calls Tryz.prog 27 #[.agg #[.int .i64 r,.int .i64 C,.slice a n c],.int .i64 lim] W fun e w'=>∃a5 c5,e = .returned (.tuple #[.slice a5 0 c5,.int .i64 20])∧GL w' a5 0 N css∧Below W.heap.size W w')
  : Calls Tryz.prog 4 #[.agg #[.int .i64 r,.int .i64 C,.slice a n c],.int .i64 lim] w fun e w'=>e = .returned (.bool true)∧Below w.heap.size w w':=by
 have hgI0:decide ((300:Int)<(n:Int))=false:=decide_eq_false (by omega)
 have HA:=Lib.hid HA
 have HP:=Lib.hid HP
 go_enter Tryz.func4,Tryz.ntmps4
 go_upto_region 1 with fail
 have fsz:(w.alloc (.cells #[.int .i64 r,.int .i64 C,.slice a n c] 24)).heap.size=w.heap.size+1:=by simp only[World.size_alloc]
 have fB:Below w.heap.size w (w.alloc (.cells #[.int .i64 r,.int .i64 C,.slice a n c] 24)):=(Below.refl _ _).alloc (Nat.le_refl _) _
 have fq0:(w.alloc (.cells #[.int .i64 r,.int .i64 C,.slice a n c] 24)).heap[w.heap.size]?=some (.cells #[.int .i64 r,.int .i64 C,.slice a n c] 24 (0,0)):=by have h:=World.alloc_heap_new w (.cells #[.int .i64 r,.int .i64 C,.slice a n c] 24);exact h
 generalize (w.alloc (.cells #[.int .i64 r,.int .i64 C,.slice a n c] 24))=W0 at fsz fB fq0 ⊢
 have Q0:=Lib.hid fq0
 have FB:=Lib.hid fB
 obtain ⟨x0,x1,x2,xl⟩:=c3_of fq0
 clear fq0 fsz fB
 go_upto_region 12 with (first|(go_at_call 19;(with_reducible refine (lgreat_c r C a n c 300 _).mono ?_);rintro _ w1 ⟨rfl,hbw1⟩;have hkw1:Below W0.heap.size W0 w1:=(by (repeat (first|assumption|exact Below.refl _ _|refine keep_drew ?_|refine keep_alloc ?_ _|refine keep_trans ?_ (by assumption))));obtain ⟨xw10,xw11,xw12,xw1l⟩:=c3_of (keepq hkw1 Q0.out))|(go_at_call 25;(with_reducible refine (HA.out _ (keep_trans FB.out (by (repeat (first|assumption|exact Below.refl _ _|refine keep_drew ?_|refine keep_alloc ?_ _|refine keep_trans ?_ (by assumption)))))).mono ?_);rintro _ w2 ⟨rfl,hbw2⟩;have hkw2:Below W0.heap.size W0 w2:=(by (repeat (first|assumption|exact Below.refl _ _|refine keep_drew ?_|refine keep_alloc ?_ _|refine keep_trans ?_ (by assumption))));obtain ⟨xw20,xw21,xw22,xw2l⟩:=c3_of (keepq hkw2 Q0.out))|(go_at_call 27;(with_reducible refine (HP.out _ (keep_trans FB.out (by (repeat (first|assumption|exact Below.refl _ _|refine keep_drew ?_|refine keep_alloc ?_ _|refine keep_trans ?_ (by assumption)))))).mono ?_);rintro _ w5 ⟨a5,c5,rfl,hi5,hbw5⟩;have hkw5:Below W0.heap.size W0 w5:=(by (repeat (first|assumption|exact Below.refl _ _|refine keep_drew ?_|refine keep_alloc ?_ _|refine keep_trans ?_ (by assumption))));obtain ⟨xw50,xw51,xw52,xw5l⟩:=c3_of (keepq hkw5 Q0.out))|fail)
 have hB5:Below W0.heap.size W0 w5:=by (repeat (first|assumption|exact Below.refl _ _|refine keep_drew ?_|refine keep_alloc ?_ _|refine keep_trans ?_ (by assumption)))
 have HB5:=Lib.hid hB5
 have HI5:=Lib.hid hi5
 have HGR:=Lib.hid (fun W (hb:Below w5.heap.size w5 W)=>lgrids_t a5 0 c5 N css none 0 W (HI5.out.below hb) (show GL W none 0 N css from ⟨HI5.out.1,fun k hk=>absurd hk (by omega)⟩) (by omega))
 go_wp2_with (first|(go_at_call 29;(with_reducible refine (HGR.out _ (by (repeat (first|assumption|exact Below.refl _ _|refine keep_drew ?_|refine keep_alloc ?_ _|refine keep_trans ?_ (by assumption))))).mono ?_);rintro _ w7 ⟨rfl,hbw7⟩)|(go_at_call 20;refine (awake4_c _).mono ?_;rintro _ wz ⟨rfl,hbz⟩)|fail)
 refine bodyPost_ret (v := .bool true) ?_ rfl ⟨rfl,keep_trans (keep_trans FB.out HB5.out) (show Below w5.heap.size w5 wz by (repeat (first|assumption|exact Below.refl _ _|refine keep_drew ?_|refine keep_alloc ?_ _|refine keep_trans ?_ (by assumption))))⟩
 simp[results,Tryz.f4,go_sem]
theorem lcompl_e (r C:Int) (a:Option Addr) (n c:Nat) (lim:Int) (w:World) (hg0:¬300<n) (o:Int) (h0:decide (lim<1)=false) (h1:decide (256<lim)=false) (h2:decide (7<r)=false) (h3:decide (25<o)=true)
  (HA:∀W,Below w.heap.size w W→Calls Tryz.prog 25 #[.agg #[.int .i64 r,.int .i64 C,.slice a n c]] W fun e w'=>e = .returned (.int .i64 0)∧Below W.heap.size W w')
  (HN:∀W,Below w.heap.size w W→Calls Tryz.prog 26 #[.agg #[.int .i64 r,.int .i64 C,.slice a n c]] W fun e w'=>e = .returned (.int .i64 o)∧Below W.heap.size W w')
  (N:Nat) (css:List (List Int)) (HP:∀W,Below w.heap.size w W→Calls Tryz.prog 27 #[.agg #[.int .i64 r,.int .i64 C,.slice a n c],.int .i64 lim] W fun e w'=>∃a5 c5,e = .returned (.tuple #[.slice a5 0 c5,.int .i64 20])∧GL w' a5 0 N css∧Below W.heap.size W w')
  : Calls Tryz.prog 4 #[.agg #[.int .i64 r,.int .i64 C,.slice a n c],.int .i64 lim] w fun e w'=>e = .returned (.bool true)∧Below w.heap.size w w':=by
 have hgI0:decide ((300:Int)<(n:Int))=false:=decide_eq_false (by omega)
 have HA:=Lib.hid HA
 have HN:=Lib.hid HN
 have HP:=Lib.hid HP
 go_enter Tryz.func4,Tryz.ntmps4
 go_upto_region 1 with fail
 have fsz:(w.alloc (.cells #[.int .i64 r,.int .i64 C,.slice a n c] 24)).heap.size=w.heap.size+1:=by simp only[World.size_alloc]
 have fB:Below w.heap.size w (w.alloc (.cells #[.int .i64 r,.int .i64 C,.slice a n c] 24)):=(Below.refl _ _).alloc (Nat.le_refl _) _
 have fq0:(w.alloc (.cells #[.int .i64 r,.int .i64 C,.slice a n c] 24)).heap[w.heap.size]?=some (.cells #[.int .i64 r,.int .i64 C,.slice a n c] 24 (0,0)):=by have h:=World.alloc_heap_new w (.cells #[.int .i64 r,.int .i64 C,.slice a n c] 24);exact h
 generalize (w.alloc (.cells #[.int .i64 r,.int .i64 C,.slice a n c] 24))=W0 at fsz fB fq0 ⊢
 have Q0:=Lib.hid fq0
 have FB:=Lib.hid fB
 obtain ⟨x0,x1,x2,xl⟩:=c3_of fq0
 clear fq0 fsz fB
 go_upto_region 8 with (first|(go_at_call 19;(with_reducible refine (lgreat_c r C a n c 300 _).mono ?_);rintro _ w1 ⟨rfl,hbw1⟩;have hkw1:Below W0.heap.size W0 w1:=(by (repeat (first|assumption|exact Below.refl _ _|refine keep_drew ?_|refine keep_alloc ?_ _|refine keep_trans ?_ (by assumption))));obtain ⟨xw10,xw11,xw12,xw1l⟩:=c3_of (keepq hkw1 Q0.out))|(go_at_call 25;(with_reducible refine (HA.out _ (keep_trans FB.out (by (repeat (first|assumption|exact Below.refl _ _|refine keep_drew ?_|refine keep_alloc ?_ _|refine keep_trans ?_ (by assumption)))))).mono ?_);rintro _ w2 ⟨rfl,hbw2⟩;have hkw2:Below W0.heap.size W0 w2:=(by (repeat (first|assumption|exact Below.refl _ _|refine keep_drew ?_|refine keep_alloc ?_ _|refine keep_trans ?_ (by assumption))));obtain ⟨xw20,xw21,xw22,xw2l⟩:=c3_of (keepq hkw2 Q0.out))|(go_at_call 26;(with_reducible refine (HN.out _ (keep_trans FB.out (by (repeat (first|assumption|exact Below.refl _ _|refine keep_drew ?_|refine keep_alloc ?_ _|refine keep_trans ?_ (by assumption)))))).mono ?_);rintro _ w3 ⟨rfl,hbw3⟩;have hkw3:Below W0.heap.size W0 w3:=(by (repeat (first|assumption|exact Below.refl _ _|refine keep_drew ?_|refine keep_alloc ?_ _|refine keep_trans ?_ (by assumption))));obtain ⟨xw30,xw31,xw32,xw3l⟩:=c3_of (keepq hkw3 Q0.out))|fail)
 go_upto_region 12 with (first|(go_at_call 26;(with_reducible refine (HN.out _ (keep_trans FB.out (by (repeat (first|assumption|exact Below.refl _ _|refine keep_drew ?_|refine keep_alloc ?_ _|refine keep_trans ?_ (by assumption)))))).mono ?_);rintro _ w4 ⟨rfl,hbw4⟩;have hkw4:Below W0.heap.size W0 w4:=(by (repeat (first|assumption|exact Below.refl _ _|refine keep_drew ?_|refine keep_alloc ?_ _|refine keep_trans ?_ (by assumption))));obtain ⟨xw40,xw41,xw42,xw4l⟩:=c3_of (keepq hkw4 Q0.out))|(go_at_call 27;(with_reducible refine (HP.out _ (keep_trans FB.out (by (repeat (first|assumption|exact Below.refl _ _|refine keep_drew ?_|refine keep_alloc ?_ _|refine keep_trans ?_ (by assumption)))))).mono ?_);rintro _ w5 ⟨a5,c5,rfl,hi5,hbw5⟩;have hkw5:Below W0.heap.size W0 w5:=(by (repeat (first|assumption|exact Below.refl _ _|refine keep_drew ?_|refine keep_alloc ?_ _|refine keep_trans ?_ (by assumption))));obtain ⟨xw50,xw51,xw52,xw5l⟩:=c3_of (keepq hkw5 Q0.out))|fail)
 have hB5:Below W0.heap.size W0 w5:=by (repeat (first|assumption|exact Below.refl _ _|refine keep_drew ?_|refine keep_alloc ?_ _|refine keep_trans ?_ (by assumption)))
 have HB5:=Lib.hid hB5
 have HI5:=Lib.hid hi5
 have HGR:=Lib.hid (fun W (hb:Below w5.heap.size w5 W)=>lgrids_t a5 0 c5 N css none 0 W (HI5.out.below hb) (show GL W none 0 N css from ⟨HI5.out.1,fun k hk=>absurd hk (by omega)⟩) (by omega))
 go_wp2_with (first|(go_at_call 29;(with_reducible refine (HGR.out _ (by (repeat (first|assumption|exact Below.refl _ _|refine keep_drew ?_|refine keep_alloc ?_ _|refine keep_trans ?_ (by assumption))))).mono ?_);rintro _ w7 ⟨rfl,hbw7⟩)|(go_at_call 20;refine (awake4_c _).mono ?_;rintro _ wz ⟨rfl,hbz⟩)|fail)
 refine bodyPost_ret (v := .bool true) ?_ rfl ⟨rfl,keep_trans (keep_trans FB.out HB5.out) (show Below w5.heap.size w5 wz by (repeat (first|assumption|exact Below.refl _ _|refine keep_drew ?_|refine keep_alloc ?_ _|refine keep_trans ?_ (by assumption))))⟩
 simp[results,Tryz.f4,go_sem]
theorem lcompl_f (r C:Int) (a:Option Addr) (n c:Nat) (lim:Int) (w:World) (hg0:¬300<n) (o:Int) (h0:decide (lim<1)=false) (h1:decide (256<lim)=false) (h2:decide (7<r)=false) (h3:decide (25<o)=false) (h4:decide (5<r)=true)
  (HA:∀W,Below w.heap.size w W→Calls Tryz.prog 25 #[.agg #[.int .i64 r,.int .i64 C,.slice a n c]] W fun e w'=>e = .returned (.int .i64 0)∧Below W.heap.size W w')
  (HN:∀W,Below w.heap.size w W→Calls Tryz.prog 26 #[.agg #[.int .i64 r,.int .i64 C,.slice a n c]] W fun e w'=>e = .returned (.int .i64 o)∧Below W.heap.size W w')
  : Calls Tryz.prog 4 #[.agg #[.int .i64 r,.int .i64 C,.slice a n c],.int .i64 lim] w fun e w'=>e = .returned (.bool true)∧Below w.heap.size w w':=by
 have hgI0:decide ((300:Int)<(n:Int))=false:=decide_eq_false (by omega)
 have HA:=Lib.hid HA
 have HN:=Lib.hid HN
 go_enter Tryz.func4,Tryz.ntmps4
 go_upto_region 1 with fail
 have fsz:(w.alloc (.cells #[.int .i64 r,.int .i64 C,.slice a n c] 24)).heap.size=w.heap.size+1:=by simp only[World.size_alloc]
 have fB:Below w.heap.size w (w.alloc (.cells #[.int .i64 r,.int .i64 C,.slice a n c] 24)):=(Below.refl _ _).alloc (Nat.le_refl _) _
 have fq0:(w.alloc (.cells #[.int .i64 r,.int .i64 C,.slice a n c] 24)).heap[w.heap.size]?=some (.cells #[.int .i64 r,.int .i64 C,.slice a n c] 24 (0,0)):=by have h:=World.alloc_heap_new w (.cells #[.int .i64 r,.int .i64 C,.slice a n c] 24);exact h
 generalize (w.alloc (.cells #[.int .i64 r,.int .i64 C,.slice a n c] 24))=W0 at fsz fB fq0 ⊢
 have Q0:=Lib.hid fq0
 have FB:=Lib.hid fB
 obtain ⟨x0,x1,x2,xl⟩:=c3_of fq0
 clear fq0 fsz fB
 go_wp2_with (first|(go_at_call 19;(with_reducible refine (lgreat_c r C a n c 300 _).mono ?_);rintro _ w1 ⟨rfl,hbw1⟩;have hkw1:Below W0.heap.size W0 w1:=(by (repeat (first|assumption|exact Below.refl _ _|refine keep_drew ?_|refine keep_alloc ?_ _|refine keep_trans ?_ (by assumption))));obtain ⟨xw10,xw11,xw12,xw1l⟩:=c3_of (keepq hkw1 Q0.out))|(go_at_call 25;(with_reducible refine (HA.out _ (keep_trans FB.out (by (repeat (first|assumption|exact Below.refl _ _|refine keep_drew ?_|refine keep_alloc ?_ _|refine keep_trans ?_ (by assumption)))))).mono ?_);rintro _ w2 ⟨rfl,hbw2⟩;have hkw2:Below W0.heap.size W0 w2:=(by (repeat (first|assumption|exact Below.refl _ _|refine keep_drew ?_|refine keep_alloc ?_ _|refine keep_trans ?_ (by assumption))));obtain ⟨xw20,xw21,xw22,xw2l⟩:=c3_of (keepq hkw2 Q0.out))|(go_at_call 26;(with_reducible refine (HN.out _ (keep_trans FB.out (by (repeat (first|assumption|exact Below.refl _ _|refine keep_drew ?_|refine keep_alloc ?_ _|refine keep_trans ?_ (by assumption)))))).mono ?_);rintro _ w3 ⟨rfl,hbw3⟩;have hkw3:Below W0.heap.size W0 w3:=(by (repeat (first|assumption|exact Below.refl _ _|refine keep_drew ?_|refine keep_alloc ?_ _|refine keep_trans ?_ (by assumption))));obtain ⟨xw30,xw31,xw32,xw3l⟩:=c3_of (keepq hkw3 Q0.out))|(go_at_call 20;refine (awake4_c _).mono ?_;rintro _ wz ⟨rfl,hbz⟩)|fail)
 refine bodyPost_ret (v := .bool true) ?_ rfl ⟨rfl,keep_trans FB.out (show Below W0.heap.size W0 wz by (repeat (first|assumption|exact Below.refl _ _|refine keep_drew ?_|refine keep_alloc ?_ _|refine keep_trans ?_ (by assumption))))⟩
 simp[results,Tryz.f4,go_sem]
theorem lcompl_h (r C:Int) (a:Option Addr) (n c:Nat) (lim:Int) (w:World) (hg0:¬300<n) (o:Int) (h0:decide (lim<1)=false) (h1:decide (256<lim)=false) (h2:decide (7<r)=false) (h3:decide (25<o)=false) (h4:decide (5<r)=false) (h5:decide (12<o)=true)
  (HA:∀W,Below w.heap.size w W→Calls Tryz.prog 25 #[.agg #[.int .i64 r,.int .i64 C,.slice a n c]] W fun e w'=>e = .returned (.int .i64 0)∧Below W.heap.size W w')
  (HN:∀W,Below w.heap.size w W→Calls Tryz.prog 26 #[.agg #[.int .i64 r,.int .i64 C,.slice a n c]] W fun e w'=>e = .returned (.int .i64 o)∧Below W.heap.size W w')
  : Calls Tryz.prog 4 #[.agg #[.int .i64 r,.int .i64 C,.slice a n c],.int .i64 lim] w fun e w'=>e = .returned (.bool true)∧Below w.heap.size w w':=by
 have hgI0:decide ((300:Int)<(n:Int))=false:=decide_eq_false (by omega)
 have HA:=Lib.hid HA
 have HN:=Lib.hid HN
 go_enter Tryz.func4,Tryz.ntmps4
 go_upto_region 1 with fail
 have fsz:(w.alloc (.cells #[.int .i64 r,.int .i64 C,.slice a n c] 24)).heap.size=w.heap.size+1:=by simp only[World.size_alloc]
 have fB:Below w.heap.size w (w.alloc (.cells #[.int .i64 r,.int .i64 C,.slice a n c] 24)):=(Below.refl _ _).alloc (Nat.le_refl _) _
 have fq0:(w.alloc (.cells #[.int .i64 r,.int .i64 C,.slice a n c] 24)).heap[w.heap.size]?=some (.cells #[.int .i64 r,.int .i64 C,.slice a n c] 24 (0,0)):=by have h:=World.alloc_heap_new w (.cells #[.int .i64 r,.int .i64 C,.slice a n c] 24);exact h
 generalize (w.alloc (.cells #[.int .i64 r,.int .i64 C,.slice a n c] 24))=W0 at fsz fB fq0 ⊢
 have Q0:=Lib.hid fq0
 have FB:=Lib.hid fB
 obtain ⟨x0,x1,x2,xl⟩:=c3_of fq0
 clear fq0 fsz fB
 go_upto_region 8 with (first|(go_at_call 19;(with_reducible refine (lgreat_c r C a n c 300 _).mono ?_);rintro _ w1 ⟨rfl,hbw1⟩;have hkw1:Below W0.heap.size W0 w1:=(by (repeat (first|assumption|exact Below.refl _ _|refine keep_drew ?_|refine keep_alloc ?_ _|refine keep_trans ?_ (by assumption))));obtain ⟨xw10,xw11,xw12,xw1l⟩:=c3_of (keepq hkw1 Q0.out))|(go_at_call 25;(with_reducible refine (HA.out _ (keep_trans FB.out (by (repeat (first|assumption|exact Below.refl _ _|refine keep_drew ?_|refine keep_alloc ?_ _|refine keep_trans ?_ (by assumption)))))).mono ?_);rintro _ w2 ⟨rfl,hbw2⟩;have hkw2:Below W0.heap.size W0 w2:=(by (repeat (first|assumption|exact Below.refl _ _|refine keep_drew ?_|refine keep_alloc ?_ _|refine keep_trans ?_ (by assumption))));obtain ⟨xw20,xw21,xw22,xw2l⟩:=c3_of (keepq hkw2 Q0.out))|(go_at_call 26;(with_reducible refine (HN.out _ (keep_trans FB.out (by (repeat (first|assumption|exact Below.refl _ _|refine keep_drew ?_|refine keep_alloc ?_ _|refine keep_trans ?_ (by assumption)))))).mono ?_);rintro _ w3 ⟨rfl,hbw3⟩;have hkw3:Below W0.heap.size W0 w3:=(by (repeat (first|assumption|exact Below.refl _ _|refine keep_drew ?_|refine keep_alloc ?_ _|refine keep_trans ?_ (by assumption))));obtain ⟨xw30,xw31,xw32,xw3l⟩:=c3_of (keepq hkw3 Q0.out))|fail)
 go_wp2_with (first|(go_at_call 26;(with_reducible refine (HN.out _ (keep_trans FB.out (by (repeat (first|assumption|exact Below.refl _ _|refine keep_drew ?_|refine keep_alloc ?_ _|refine keep_trans ?_ (by assumption)))))).mono ?_);rintro _ w4 ⟨rfl,hbw4⟩;have hkw4:Below W0.heap.size W0 w4:=(by (repeat (first|assumption|exact Below.refl _ _|refine keep_drew ?_|refine keep_alloc ?_ _|refine keep_trans ?_ (by assumption))));obtain ⟨xw40,xw41,xw42,xw4l⟩:=c3_of (keepq hkw4 Q0.out))|(go_at_call 20;refine (awake4_c _).mono ?_;rintro _ wz ⟨rfl,hbz⟩)|fail)
 refine bodyPost_ret (v := .bool true) ?_ rfl ⟨rfl,keep_trans FB.out (show Below W0.heap.size W0 wz by (repeat (first|assumption|exact Below.refl _ _|refine keep_drew ?_|refine keep_alloc ?_ _|refine keep_trans ?_ (by assumption))))⟩
 simp[results,Tryz.f4,go_sem]
theorem lcompl_i (r C:Int) (a:Option Addr) (n c:Nat) (lim:Int) (w:World) (hg0:¬300<n) (o:Int) (h0:decide (lim<1)=false) (h1:decide (256<lim)=false) (h2:decide (7<r)=false) (h3:decide (25<o)=false) (h4:decide (5<r)=false) (h5:decide (12<o)=false)
  (HA:∀W,Below w.heap.size w W→Calls Tryz.prog 25 #[.agg #[.int .i64 r,.int .i64 C,.slice a n c]] W fun e w'=>e = .returned (.int .i64 0)∧Below W.heap.size W w')
  (HN:∀W,Below w.heap.size w W→Calls Tryz.prog 26 #[.agg #[.int .i64 r,.int .i64 C,.slice a n c]] W fun e w'=>e = .returned (.int .i64 o)∧Below W.heap.size W w')
  (N:Nat) (css:List (List Int)) (HP:∀W,Below w.heap.size w W→Calls Tryz.prog 27 #[.agg #[.int .i64 r,.int .i64 C,.slice a n c],.int .i64 lim] W fun e w'=>∃a5 c5,e = .returned (.tuple #[.slice a5 0 c5,.int .i64 21])∧GL w' a5 0 N css∧Below W.heap.size W w')
  (HR:∀W,Below w.heap.size w W→Calls Tryz.prog 28 #[.agg #[.int .i64 r,.int .i64 C,.slice a n c],.int .i64 lim] W fun e w'=>∃a6 c6,e = .returned (.slice a6 0 c6)∧GL w' a6 0 N css∧Below W.heap.size W w')
  : Calls Tryz.prog 4 #[.agg #[.int .i64 r,.int .i64 C,.slice a n c],.int .i64 lim] w fun e w'=>e = .returned (.bool true)∧Below w.heap.size w w':=by
 have hgI0:decide ((300:Int)<(n:Int))=false:=decide_eq_false (by omega)
 have HA:=Lib.hid HA
 have HN:=Lib.hid HN
 have HP:=Lib.hid HP
 have HR:=Lib.hid HR
 go_enter Tryz.func4,Tryz.ntmps4
 go_upto_region 1 with fail
 have fsz:(w.alloc (.cells #[.int .i64 r,.int .i64 C,.slice a n c] 24)).heap.size=w.heap.size+1:=by simp only[World.size_alloc]
 have fB:Below w.heap.size w (w.alloc (.cells #[.int .i64 r,.int .i64 C,.slice a n c] 24)):=(Below.refl _ _).alloc (Nat.le_refl _) _
 have fq0:(w.alloc (.cells #[.int .i64 r,.int .i64 C,.slice a n c] 24)).heap[w.heap.size]?=some (.cells #[.int .i64 r,.int .i64 C,.slice a n c] 24 (0,0)):=by have h:=World.alloc_heap_new w (.cells #[.int .i64 r,.int .i64 C,.slice a n c] 24);exact h
 generalize (w.alloc (.cells #[.int .i64 r,.int .i64 C,.slice a n c] 24))=W0 at fsz fB fq0 ⊢
 have Q0:=Lib.hid fq0
 have FB:=Lib.hid fB
 obtain ⟨x0,x1,x2,xl⟩:=c3_of fq0
 clear fq0 fsz fB
 go_upto_region 8 with (first|(go_at_call 19;(with_reducible refine (lgreat_c r C a n c 300 _).mono ?_);rintro _ w1 ⟨rfl,hbw1⟩;have hkw1:Below W0.heap.size W0 w1:=(by (repeat (first|assumption|exact Below.refl _ _|refine keep_drew ?_|refine keep_alloc ?_ _|refine keep_trans ?_ (by assumption))));obtain ⟨xw10,xw11,xw12,xw1l⟩:=c3_of (keepq hkw1 Q0.out))|(go_at_call 25;(with_reducible refine (HA.out _ (keep_trans FB.out (by (repeat (first|assumption|exact Below.refl _ _|refine keep_drew ?_|refine keep_alloc ?_ _|refine keep_trans ?_ (by assumption)))))).mono ?_);rintro _ w2 ⟨rfl,hbw2⟩;have hkw2:Below W0.heap.size W0 w2:=(by (repeat (first|assumption|exact Below.refl _ _|refine keep_drew ?_|refine keep_alloc ?_ _|refine keep_trans ?_ (by assumption))));obtain ⟨xw20,xw21,xw22,xw2l⟩:=c3_of (keepq hkw2 Q0.out))|(go_at_call 26;(with_reducible refine (HN.out _ (keep_trans FB.out (by (repeat (first|assumption|exact Below.refl _ _|refine keep_drew ?_|refine keep_alloc ?_ _|refine keep_trans ?_ (by assumption)))))).mono ?_);rintro _ w3 ⟨rfl,hbw3⟩;have hkw3:Below W0.heap.size W0 w3:=(by (repeat (first|assumption|exact Below.refl _ _|refine keep_drew ?_|refine keep_alloc ?_ _|refine keep_trans ?_ (by assumption))));obtain ⟨xw30,xw31,xw32,xw3l⟩:=c3_of (keepq hkw3 Q0.out))|fail)
 go_upto_region 12 with (first|(go_at_call 26;(with_reducible refine (HN.out _ (keep_trans FB.out (by (repeat (first|assumption|exact Below.refl _ _|refine keep_drew ?_|refine keep_alloc ?_ _|refine keep_trans ?_ (by assumption)))))).mono ?_);rintro _ w4 ⟨rfl,hbw4⟩;have hkw4:Below W0.heap.size W0 w4:=(by (repeat (first|assumption|exact Below.refl _ _|refine keep_drew ?_|refine keep_alloc ?_ _|refine keep_trans ?_ (by assumption))));obtain ⟨xw40,xw41,xw42,xw4l⟩:=c3_of (keepq hkw4 Q0.out))|(go_at_call 27;(with_reducible refine (HP.out _ (keep_trans FB.out (by (repeat (first|assumption|exact Below.refl _ _|refine keep_drew ?_|refine keep_alloc ?_ _|refine keep_trans ?_ (by assumption)))))).mono ?_);rintro _ w5 ⟨a5,c5,rfl,hi5,hbw5⟩;have hkw5:Below W0.heap.size W0 w5:=(by (repeat (first|assumption|exact Below.refl _ _|refine keep_drew ?_|refine keep_alloc ?_ _|refine keep_trans ?_ (by assumption))));obtain ⟨xw50,xw51,xw52,xw5l⟩:=c3_of (keepq hkw5 Q0.out))|fail)
 have hB5:Below W0.heap.size W0 w5:=by (repeat (first|assumption|exact Below.refl _ _|refine keep_drew ?_|refine keep_alloc ?_ _|refine keep_trans ?_ (by assumption)))
 have HB5:=Lib.hid hB5
 have HI5:=Lib.hid hi5
 go_upto_region 14 with (first|(go_at_call 28;(with_reducible refine (HR.out _ (keep_trans FB.out HB5.out)).mono ?_);rintro _ w6 ⟨a6,c6,rfl,hi6,hbw6⟩)|fail)
 have HI6:=Lib.hid hi6
 have HB6:=Lib.hid hbw6
 have HGR:=Lib.hid (fun W (hb:Below w6.heap.size w6 W)=>lgrids_t a5 0 c5 N css a6 0 W (HI5.out.below (keep_trans HB6.out hb)) (show GL W a6 0 N css from HI6.out.below hb) (by omega))
 have HGR2:=Lib.hid (fun W (hb:Below w6.heap.size w6 W)=>lgrids_t a5 0 c5 N css a6 c6 W (HI5.out.below (keep_trans HB6.out hb)) (HI6.out.below hb) (by omega))
 go_wp2_with (first|(go_at_call 29;(with_reducible refine (HGR2.out _ (by (repeat (first|assumption|exact Below.refl _ _|refine keep_drew ?_|refine keep_alloc ?_ _|refine keep_trans ?_ (by assumption))))).mono ?_);rintro _ w7 ⟨rfl,hbw7⟩)|(go_at_call 20;refine (awake4_c _).mono ?_;rintro _ wz ⟨rfl,hbz⟩)|fail)
 refine bodyPost_ret (v := .bool true) ?_ rfl ⟨rfl,keep_trans (keep_trans (keep_trans FB.out HB5.out) HB6.out) (show Below w6.heap.size w6 wz by (repeat (first|assumption|exact Below.refl _ _|refine keep_drew ?_|refine keep_alloc ?_ _|refine keep_trans ?_ (by assumption))))⟩
 simp[results,Tryz.f4,go_sem]
theorem lcompl_j (r C:Int) (a:Option Addr) (n c:Nat) (lim:Int) (w:World) (hg0:¬300<n) (o:Int) (m:Nat) (hm:1≤m) (hm2:m≤256) (h0:decide (lim<1)=false) (h1:decide (256<lim)=false) (h2:decide (7<r)=false) (h3:decide (25<o)=false) (h4:decide (5<r)=false) (h5:decide (12<o)=false)
  (HA:∀W,Below w.heap.size w W→Calls Tryz.prog 25 #[.agg #[.int .i64 r,.int .i64 C,.slice a n c]] W fun e w'=>e = .returned (.int .i64 0)∧Below W.heap.size W w')
  (HN:∀W,Below w.heap.size w W→Calls Tryz.prog 26 #[.agg #[.int .i64 r,.int .i64 C,.slice a n c]] W fun e w'=>e = .returned (.int .i64 o)∧Below W.heap.size W w')
  (N:Nat) (css:List (List Int)) (HP:∀W,Below w.heap.size w W→Calls Tryz.prog 27 #[.agg #[.int .i64 r,.int .i64 C,.slice a n c],.int .i64 lim] W fun e w'=>∃a5 c5,e = .returned (.tuple #[.slice a5 m c5,.int .i64 0])∧GL w' a5 m N css∧Below W.heap.size W w')
  (HR:∀W,Below w.heap.size w W→Calls Tryz.prog 28 #[.agg #[.int .i64 r,.int .i64 C,.slice a n c],.int .i64 lim] W fun e w'=>∃a6 c6,e = .returned (.slice a6 m c6)∧GL w' a6 m N css∧Below W.heap.size W w')
  : Calls Tryz.prog 4 #[.agg #[.int .i64 r,.int .i64 C,.slice a n c],.int .i64 lim] w fun e w'=>e = .returned (.bool true)∧Below w.heap.size w w':=by
 have hgI0:decide ((300:Int)<(n:Int))=false:=decide_eq_false (by omega)
 have HA:=Lib.hid HA
 have HN:=Lib.hid HN
 have HP:=Lib.hid HP
 have HR:=Lib.hid HR
 have e3:((m:Int)==0)=false:=by simpa using (show ¬(m:Int)=0 by omega)
 go_enter Tryz.func4,Tryz.ntmps4
 go_upto_region 1 with fail
 have fsz:(w.alloc (.cells #[.int .i64 r,.int .i64 C,.slice a n c] 24)).heap.size=w.heap.size+1:=by simp only[World.size_alloc]
 have fB:Below w.heap.size w (w.alloc (.cells #[.int .i64 r,.int .i64 C,.slice a n c] 24)):=(Below.refl _ _).alloc (Nat.le_refl _) _
 have fq0:(w.alloc (.cells #[.int .i64 r,.int .i64 C,.slice a n c] 24)).heap[w.heap.size]?=some (.cells #[.int .i64 r,.int .i64 C,.slice a n c] 24 (0,0)):=by have h:=World.alloc_heap_new w (.cells #[.int .i64 r,.int .i64 C,.slice a n c] 24);exact h
 generalize (w.alloc (.cells #[.int .i64 r,.int .i64 C,.slice a n c] 24))=W0 at fsz fB fq0 ⊢
 have Q0:=Lib.hid fq0
 have FB:=Lib.hid fB
 obtain ⟨x0,x1,x2,xl⟩:=c3_of fq0
 clear fq0 fsz fB
 go_upto_region 8 with (first|(go_at_call 19;(with_reducible refine (lgreat_c r C a n c 300 _).mono ?_);rintro _ w1 ⟨rfl,hbw1⟩;have hkw1:Below W0.heap.size W0 w1:=(by (repeat (first|assumption|exact Below.refl _ _|refine keep_drew ?_|refine keep_alloc ?_ _|refine keep_trans ?_ (by assumption))));obtain ⟨xw10,xw11,xw12,xw1l⟩:=c3_of (keepq hkw1 Q0.out))|(go_at_call 25;(with_reducible refine (HA.out _ (keep_trans FB.out (by (repeat (first|assumption|exact Below.refl _ _|refine keep_drew ?_|refine keep_alloc ?_ _|refine keep_trans ?_ (by assumption)))))).mono ?_);rintro _ w2 ⟨rfl,hbw2⟩;have hkw2:Below W0.heap.size W0 w2:=(by (repeat (first|assumption|exact Below.refl _ _|refine keep_drew ?_|refine keep_alloc ?_ _|refine keep_trans ?_ (by assumption))));obtain ⟨xw20,xw21,xw22,xw2l⟩:=c3_of (keepq hkw2 Q0.out))|(go_at_call 26;(with_reducible refine (HN.out _ (keep_trans FB.out (by (repeat (first|assumption|exact Below.refl _ _|refine keep_drew ?_|refine keep_alloc ?_ _|refine keep_trans ?_ (by assumption)))))).mono ?_);rintro _ w3 ⟨rfl,hbw3⟩;have hkw3:Below W0.heap.size W0 w3:=(by (repeat (first|assumption|exact Below.refl _ _|refine keep_drew ?_|refine keep_alloc ?_ _|refine keep_trans ?_ (by assumption))));obtain ⟨xw30,xw31,xw32,xw3l⟩:=c3_of (keepq hkw3 Q0.out))|fail)
 go_upto_region 12 with (first|(go_at_call 26;(with_reducible refine (HN.out _ (keep_trans FB.out (by (repeat (first|assumption|exact Below.refl _ _|refine keep_drew ?_|refine keep_alloc ?_ _|refine keep_trans ?_ (by assumption)))))).mono ?_);rintro _ w4 ⟨rfl,hbw4⟩;have hkw4:Below W0.heap.size W0 w4:=(by (repeat (first|assumption|exact Below.refl _ _|refine keep_drew ?_|refine keep_alloc ?_ _|refine keep_trans ?_ (by assumption))));obtain ⟨xw40,xw41,xw42,xw4l⟩:=c3_of (keepq hkw4 Q0.out))|(go_at_call 27;(with_reducible refine (HP.out _ (keep_trans FB.out (by (repeat (first|assumption|exact Below.refl _ _|refine keep_drew ?_|refine keep_alloc ?_ _|refine keep_trans ?_ (by assumption)))))).mono ?_);rintro _ w5 ⟨a5,c5,rfl,hi5,hbw5⟩;have hkw5:Below W0.heap.size W0 w5:=(by (repeat (first|assumption|exact Below.refl _ _|refine keep_drew ?_|refine keep_alloc ?_ _|refine keep_trans ?_ (by assumption))));obtain ⟨xw50,xw51,xw52,xw5l⟩:=c3_of (keepq hkw5 Q0.out))|fail)
 have hB5:Below W0.heap.size W0 w5:=by (repeat (first|assumption|exact Below.refl _ _|refine keep_drew ?_|refine keep_alloc ?_ _|refine keep_trans ?_ (by assumption)))
 have HB5:=Lib.hid hB5
 have HI5:=Lib.hid hi5
 go_upto_region 14 with (first|(go_at_call 28;(with_reducible refine (HR.out _ (keep_trans FB.out HB5.out)).mono ?_);rintro _ w6 ⟨a6,c6,rfl,hi6,hbw6⟩)|fail)
 have HI6:=Lib.hid hi6
 have HB6:=Lib.hid hbw6
 have HGR2:=Lib.hid (fun W (hb:Below w6.heap.size w6 W)=>lgrids_t a5 m c5 N css a6 c6 W (HI5.out.below (keep_trans HB6.out hb)) (HI6.out.below hb) (by omega))
 go_wp2_with (first|(go_at_call 29;(with_reducible refine (HGR2.out _ (by (repeat (first|assumption|exact Below.refl _ _|refine keep_drew ?_|refine keep_alloc ?_ _|refine keep_trans ?_ (by assumption))))).mono ?_);rintro _ w7 ⟨rfl,hbw7⟩)|(go_at_call 20;refine (awake4_c _).mono ?_;rintro _ wz ⟨rfl,hbz⟩)|fail)
 refine bodyPost_ret (v := .bool true) ?_ rfl ⟨rfl,keep_trans (keep_trans (keep_trans FB.out HB5.out) HB6.out) (show Below w6.heap.size w6 wz by (repeat (first|assumption|exact Below.refl _ _|refine keep_drew ?_|refine keep_alloc ?_ _|refine keep_trans ?_ (by assumption))))⟩
 simp[results,Tryz.f4,go_sem]
theorem firstL_ne {x:Int} {l:List Int} (h:x≠0):firstL (x :: l)=x:=by
 unfold firstL
 rw[if_pos (by simpa using h)]
theorem firstL_z {l:List Int}:firstL (0 :: l)=firstL l:=by
 rw[firstL];simp
theorem coEr_bad {r C lim:Int} {ps:List Int} {e:Int} (h:coE r C ps lim=e) (he:e≠0):coL r C ps lim=[]∧coEr r C ps lim=e:=by
 unfold coL coEr
 rw[h,if_neg he,if_neg he]
 exact ⟨rfl,rfl⟩
theorem coEr_big {r C lim:Int} {ps:List Int} (h:coE r C ps lim=0) (hb:coB r ps=true):coL r C ps lim=[]∧coEr r C ps lim=20:=by
 unfold coL coEr
 rw[if_pos h,if_pos hb,if_pos h,if_pos hb]
 exact ⟨rfl,rfl⟩
theorem compP_len {N:Nat} {ps X:List Int} (P:Part N ps) (h:X∈compP N okT (N*N) 0 ps):X.length=N*N:=by
 have:=(comp_sound (k:=0) (by rw[P.len];omega) (fun i hi=>absurd hi (by omega)) (fun x hx=>by
  obtain ⟨i,hi,rfl⟩:=List.getElem_of_mem hx
  have:=P.lt i
  rw[List.getElem?_eq_getElem hi,Option.getD_some] at this
  exact this) (once_iff.1 P.once) h).1.1
 rw[this,P.len]
theorem lcompletes_c (r C:Int) (a:Option Addr) (n c:Nat) (ps:List Int) (lim:Int) (w:World) (h:IC w a n ps) (_hcap:n≤c):Calls Tryz.prog 4 #[.agg #[.int .i64 r,.int .i64 C,.slice a n c],.int .i64 lim] w fun e w'=>e = .returned (.bool true)∧Below w.heap.size w w':=by
 by_cases g1:300<n
 ·exact lcompl_g r C a n c lim w g1
 have HA:=fun W (hb:Below w.heap.size w W)=>rpart_c r C a n c ps W (h.mono hb)
 have HP:=fun W (hb:Below w.heap.size w W)=>complete_c r C a n c ps lim W (h.mono hb)
 have HN:=fun W (hb:Below w.heap.size w W)=>ropen4_c r C a n c ps W (h.mono hb) (by omega)
 by_cases h0:sqE (-1) r C ps=0
 ·obtain ⟨N,rfl,rfl,Q⟩:=sqE_part h0
  have hN2:=Q.n2
  have hn:n=N*N:=by rw[← h.len];exact Q.len
  rw[h0] at HA
  have hE:coE (N:Int) (N:Int) ps lim=whenV (decide (lim<1)||decide (256<lim)) 3:=by
   unfold coE
   rw[h0,firstL_z]
   cases hb:(decide (lim<1)||decide (256<lim)) <;> rfl
  by_cases hl1:lim<1
  ·have hd:=decide_eq_true hl1
   rw[hd,Bool.true_or] at hE
   obtain ⟨e1,e2⟩:=coEr_bad (e:=3) hE (by decide)
   rw[e1,e2] at HP
   exact lcompl_b (N:Int) (N:Int) a n c lim w g1 hd HA (N:Int).toNat [] HP
  have hd1:=decide_eq_false hl1
  by_cases hl2:256<lim
  ·have hd:=decide_eq_true hl2
   rw[hd,Bool.or_true] at hE
   obtain ⟨e1,e2⟩:=coEr_bad (e:=3) hE (by decide)
   rw[e1,e2] at HP
   exact lcompl_c (N:Int) (N:Int) a n c lim w g1 hd1 hd HA (N:Int).toNat [] HP
  have hd2:=decide_eq_false hl2
  rw[hd1,hd2] at hE
  have hE0:coE (N:Int) (N:Int) ps lim=0:=hE
  have ho:=opens_opN Q
  by_cases h7:7<(N:Int)
  ·have hd:=decide_eq_true h7
   obtain ⟨e1,e2⟩:=coEr_big hE0 (by unfold coB;rw[hd];rfl)
   rw[e1,e2] at HP
   exact lcompl_d (N:Int) (N:Int) a n c lim w g1 hd1 hd2 hd HA (N:Int).toNat [] HP
  have hd7:=decide_eq_false h7
  by_cases h25:25<(opens ps:Int)
  ·have hd:=decide_eq_true h25
   obtain ⟨e1,e2⟩:=coEr_big hE0 (by unfold coB;rw[← ho,hd];simp)
   rw[e1,e2] at HP
   exact lcompl_e (N:Int) (N:Int) a n c lim w g1 (opens ps:Int) hd1 hd2 hd7 hd HA HN (N:Int).toNat [] HP
  have hd25:=decide_eq_false h25
  by_cases h5:5<(N:Int)
  ·exact lcompl_f (N:Int) (N:Int) a n c lim w g1 (opens ps:Int) hd1 hd2 hd7 hd25 (decide_eq_true h5) HA HN
  have hd5:=decide_eq_false h5
  by_cases h12:12<(opens ps:Int)
  ·exact lcompl_h (N:Int) (N:Int) a n c lim w g1 (opens ps:Int) hd1 hd2 hd7 hd25 hd5 (decide_eq_true h12) HA HN
  have hd12:=decide_eq_false h12
  have hbf:coB (N:Int) ps=false:=by unfold coB;rw[hd7,← ho,hd25];rfl
  obtain ⟨k,rfl⟩:∃k:Nat,lim=(k:Int):=⟨lim.toNat,by omega⟩
  have hL:coL (N:Int) (N:Int) ps (k:Int)=(compP N okT (N*N) 0 ps).take k:=by
   unfold coL
   rw[if_pos hE0,if_neg (by rw[hbf];decide),Int.toNat_natCast,Int.toNat_natCast]
  have hEr:coEr (N:Int) (N:Int) ps (k:Int)=whenV (decide ((coL (N:Int) (N:Int) ps (k:Int)).length=0)) 21:=by
   unfold coEr
   rw[if_pos hE0,if_neg (by rw[hbf];decide)]
  have hNN:N*N≤16*16:=Nat.mul_le_mul hN2 hN2
  have hN1:1≤N*N:=Nat.mul_pos Q.n1 Q.n1
  have HR:∀W,Below w.heap.size w W→Calls Tryz.prog 28 #[.agg #[.int .i64 (N:Int),.int .i64 (N:Int),.slice a n c],.int .i64 (k:Int)] W fun e w'=>∃a6 c6,e = .returned (.slice a6 (coL (N:Int) (N:Int) ps (k:Int)).length c6)∧GL w' a6 (coL (N:Int) (N:Int) ps (k:Int)).length N (coL (N:Int) (N:Int) ps (k:Int))∧Below W.heap.size W w':=fun W hb=>by
   refine (rComplete_c N n k a c ps W (h.mono hb) Q.n1 hN2 (by omega) (by omega) (by omega) (by omega)).mono fun e w' hg=>?_
   obtain ⟨v,pre,he,hG,hM,hB⟩:=hg
   rw[refC_coL Q (by omega),← hL] at hM
   have hpl:pre.length=(coL (N:Int) (N:Int) ps (k:Int)).length:=by rw[← hM,List.length_map]
   have hle:(coL (N:Int) (N:Int) ps (k:Int)).length≤k:=by rw[hL];exact List.length_take_le _ _
   obtain ⟨a6,c6,e6,hg6⟩:=hG.gl (by omega) (fun x hx=>by
    have hx2:=List.mem_map_of_mem (f:=Prod.snd) hx
    rw[hM,hL] at hx2
    have:=compP_len Q (List.mem_of_mem_take hx2)
    omega)
   subst e6
   rw[hM,hpl] at hg6
   rw[hpl] at he
   exact ⟨a6,c6,he,hg6,hB⟩
  have hle:(coL (N:Int) (N:Int) ps (k:Int)).length≤k:=by rw[hL];exact List.length_take_le _ _
  rw[hEr] at HP
  have HP2:∀W,Below w.heap.size w W→Calls Tryz.prog 27 #[.agg #[.int .i64 (N:Int),.int .i64 (N:Int),.slice a n c],.int .i64 (k:Int)] W fun e w'=>∃a5 c5,e = .returned (.tuple #[.slice a5 (coL (N:Int) (N:Int) ps (k:Int)).length c5,.int .i64 (whenV (decide ((coL (N:Int) (N:Int) ps (k:Int)).length=0)) 21)])∧GL w' a5 (coL (N:Int) (N:Int) ps (k:Int)).length N (coL (N:Int) (N:Int) ps (k:Int))∧Below W.heap.size W w':=fun W hb=>by
   have:=HP W hb
   rw[Int.toNat_natCast] at this
   exact this
  clear HP hEr hL hE hE0
  generalize coL (N:Int) (N:Int) ps (k:Int)=css at HP2 HR hle
  generalize hm:css.length=m at HP2 HR hle
  by_cases hm0:m=0
  ·subst hm0
   exact lcompl_i (N:Int) (N:Int) a n c (k:Int) w g1 (opens ps:Int) hd1 hd2 hd7 hd25 hd5 hd12 HA HN N css HP2 HR
  ·rw[show whenV (decide (m=0)) 21=0 by rw[decide_eq_false hm0];rfl] at HP2
   exact lcompl_j (N:Int) (N:Int) a n c (k:Int) w g1 (opens ps:Int) m (by omega) (by omega) hd1 hd2 hd7 hd25 hd5 hd12 HA HN N css HP2 HR
 ·have hE:coE r C ps lim=sqE (-1) r C ps:=by unfold coE;exact firstL_ne h0
  obtain ⟨e1,e2⟩:=coEr_bad hE h0
  rw[e1,e2] at HP
  exact lcompl_a r C a n c lim w g1 _ (by simpa using h0) HA r.toNat [] HP
end
end Go.Proofs.YtmfpdakaeagdpaaGreat
