/- Texts J139 to J139 of this proof, in one file. -/
import Derived.Test.YtmfpdakaeagdpaaGreatW01
import Derived.Test.YtmfpdakaeagdpaaGreatW02
import Derived.Test.YtmfpdakaeagdpaaGreatW03
import Derived.Test.YtmfpdakaeagdpaaGreatW04
import Derived.Test.YtmfpdakaeagdpaaGreatW05
import Derived.Test.YtmfpdakaeagdpaaGreatW06
import Derived.Test.YtmfpdakaeagdpaaGreatW07
import Derived.Test.YtmfpdakaeagdpaaGreatW08
import Derived.Test.YtmfpdakaeagdpaaGreatW09
import Derived.Test.YtmfpdakaeagdpaaGreatW10
import Derived.Test.YtmfpdakaeagdpaaGreatW11
import Derived.Test.YtmfpdakaeagdpaaGreatW12
import Derived.Test.YtmfpdakaeagdpaaGreatW13
import Derived.Test.YtmfpdakaeagdpaaGreatW14
import Derived.Test.YtmfpdakaeagdpaaGreatW15
import Derived.Test.YtmfpdakaeagdpaaGreatW16
import Derived.Test.YtmfpdakaeagdpaaGreatW17
import Derived.Test.YtmfpdakaeagdpaaGreatW18
import Derived.Test.YtmfpdakaeagdpaaGreatW19
import Derived.Test.YtmfpdakaeagdpaaGreatW20
import Derived.Test.YtmfpdakaeagdpaaGreatW21
import Derived.Test.YtmfpdakaeagdpaaGreatW22
import Derived.Test.YtmfpdakaeagdpaaGreatW23
import Derived.Test.YtmfpdakaeagdpaaGreatW24
import Derived.Test.YtmfpdakaeagdpaaGreatW25
import Derived.Test.YtmfpdakaeagdpaaGreatW26
import Derived.Test.YtmfpdakaeagdpaaGreatW27
import Derived.Test.YtmfpdakaeagdpaaGreatX26n01
import Derived.Test.YtmfpdakaeagdpaaGreatX26n02
import Derived.Test.YtmfpdakaeagdpaaGreatX26n03
import Derived.Below
import Derived.BigFrame
import Derived.BigQuiet
import Derived.Deep.CutBlock
import Derived.Deep.CutRange
import Derived.Deep.LoopGhost
import Derived.Deep.Quiet
import Derived.Deep.RegionHeld3
import Derived.DeepKeys4
import Derived.KernelRfl
import Derived.Laws.BitsAllLaws
import Derived.Laws.EntriesVeiled
import Derived.Lib.AppendZeros
import Derived.Lib.Hide
import Derived.Lib.SlKeysI
import Derived.Lib.SliceRun
import Derived.LoopIn
import Derived.LoopNIn
import Derived.Maps.AppendAt
import Derived.Maps.OwnIn
import Derived.Maps.OwnSet
import Derived.OneCell
import Derived.OrdersHeld
import Derived.OrdersIn
import Derived.OwnWalkIn
import Derived.RangeFuncBound
import Derived.RangeFuncBox
import Derived.RangeFuncCalls
import Derived.RangeFuncLeaves
import Derived.RangeFuncNested
import Derived.RangeFuncWrites
import Derived.Shelf.Abstract
import Derived.Shelf.SortM.Plain
import Derived.Still
import Derived.TacticsIn
import Derived.TacticsInMore
import Derived.Test.YtmfpdakaeagdpaaGreatProg
import Derived.WalkKit
import Derived.WalkLawsBesides
import Derived.WalkSpells
import Derived.WideKeyPair
namespace Go.Proofs.YtmfpdakaeagdpaaGreat
set_option maxRecDepth 100000
set_option maxHeartbeats 16000000
section
open Go Go.RowKit
attribute [local go_sem] over_cell
attribute [local go_sem] Oper.semAt_some
theorem ltrv_p1 (r C:Int) (a:Option Addr) (n c:Nat) (aT:Option Addr) (nT cT:Nat) (w:World) (h1:36<n) (h2:r≤7):Calls Tryz.prog 12 #[.agg #[.int .i64 r,.int .i64 C,.slice a n c],.slice aT nT cT] w fun e w'=>e = .returned (.bool true)∧Below w.heap.size w w':=by
 have hg36:decide ((36:Int)<(n:Int))=true:=decide_eq_true (by omega)
 have hr7:decide (r≤7)=true:=decide_eq_true (by omega)
 go_enter Tryz.func12,Tryz.ntmps12
 go_upto_region 1 with fail
 have fsz:(w.alloc (.cells #[.int .i64 r,.int .i64 C,.slice a n c] 24)).heap.size=w.heap.size+1:=by simp only[World.size_alloc]
 have fB:Below w.heap.size w (w.alloc (.cells #[.int .i64 r,.int .i64 C,.slice a n c] 24)):=(Below.refl _ _).alloc (Nat.le_refl _) _
 have fq0:(w.alloc (.cells #[.int .i64 r,.int .i64 C,.slice a n c] 24)).heap[w.heap.size]?=some (.cells #[.int .i64 r,.int .i64 C,.slice a n c] 24 (0,0)):=by have h:=World.alloc_heap_new w (.cells #[.int .i64 r,.int .i64 C,.slice a n c] 24);exact h
 generalize (w.alloc (.cells #[.int .i64 r,.int .i64 C,.slice a n c] 24))=W0 at fsz fB fq0 ⊢
 have Q0:=Lib.hid fq0
 have FB:=Lib.hid fB
 obtain ⟨x0,x1,x2,xl⟩:=c3_of fq0
 clear fq0 fsz fB
 go_wp2_with (first|(go_at_call 19;(with_reducible refine (lgreat_c r C a n c 36 _).mono ?_);rintro _ w1 ⟨rfl,hbw1⟩;have hkw1:Below W0.heap.size W0 w1:=(by (repeat (first|assumption|exact Below.refl _ _|refine keep_drew ?_|refine keep_alloc ?_ _|refine keep_trans ?_ (by assumption))));obtain ⟨xw10,xw11,xw12,xw1l⟩:=c3_of (keepq hkw1 Q0.out))|(go_at_call 19;(with_reducible refine (lgreat_c r C a n c 300 _).mono ?_);rintro _ w2 ⟨rfl,hbw2⟩;have hkw2:Below W0.heap.size W0 w2:=(by (repeat (first|assumption|exact Below.refl _ _|refine keep_drew ?_|refine keep_alloc ?_ _|refine keep_trans ?_ (by assumption))));obtain ⟨xw20,xw21,xw22,xw2l⟩:=c3_of (keepq hkw2 Q0.out))|(go_at_call 20;refine (awake4_c _).mono ?_;rintro _ wz ⟨rfl,hbz⟩)|fail)
 refine bodyPost_ret (v := .bool true) ?_ rfl ⟨rfl,keep_trans FB.out (show Below W0.heap.size W0 wz by (repeat (first|assumption|exact Below.refl _ _|refine keep_drew ?_|refine keep_alloc ?_ _|refine keep_trans ?_ (by assumption))))⟩
 simp[results,Tryz.f12,go_sem]
theorem ltrv_p2 (r C:Int) (a:Option Addr) (n c:Nat) (aT:Option Addr) (nT cT:Nat) (w:World) (h1:300<n) (h2:¬r≤7):Calls Tryz.prog 12 #[.agg #[.int .i64 r,.int .i64 C,.slice a n c],.slice aT nT cT] w fun e w'=>e = .returned (.bool true)∧Below w.heap.size w w':=by
 have hg36:decide ((36:Int)<(n:Int))=true:=decide_eq_true (by omega)
 have hr7:decide (r≤7)=false:=decide_eq_false (by omega)
 have hg300:decide ((300:Int)<(n:Int))=true:=decide_eq_true (by omega)
 go_enter Tryz.func12,Tryz.ntmps12
 go_upto_region 1 with fail
 have fsz:(w.alloc (.cells #[.int .i64 r,.int .i64 C,.slice a n c] 24)).heap.size=w.heap.size+1:=by simp only[World.size_alloc]
 have fB:Below w.heap.size w (w.alloc (.cells #[.int .i64 r,.int .i64 C,.slice a n c] 24)):=(Below.refl _ _).alloc (Nat.le_refl _) _
 have fq0:(w.alloc (.cells #[.int .i64 r,.int .i64 C,.slice a n c] 24)).heap[w.heap.size]?=some (.cells #[.int .i64 r,.int .i64 C,.slice a n c] 24 (0,0)):=by have h:=World.alloc_heap_new w (.cells #[.int .i64 r,.int .i64 C,.slice a n c] 24);exact h
 generalize (w.alloc (.cells #[.int .i64 r,.int .i64 C,.slice a n c] 24))=W0 at fsz fB fq0 ⊢
 have Q0:=Lib.hid fq0
 have FB:=Lib.hid fB
 obtain ⟨x0,x1,x2,xl⟩:=c3_of fq0
 clear fq0 fsz fB
 go_wp2_with (first|(go_at_call 19;(with_reducible refine (lgreat_c r C a n c 36 _).mono ?_);rintro _ w1 ⟨rfl,hbw1⟩;have hkw1:Below W0.heap.size W0 w1:=(by (repeat (first|assumption|exact Below.refl _ _|refine keep_drew ?_|refine keep_alloc ?_ _|refine keep_trans ?_ (by assumption))));obtain ⟨xw10,xw11,xw12,xw1l⟩:=c3_of (keepq hkw1 Q0.out))|(go_at_call 19;(with_reducible refine (lgreat_c r C a n c 300 _).mono ?_);rintro _ w2 ⟨rfl,hbw2⟩;have hkw2:Below W0.heap.size W0 w2:=(by (repeat (first|assumption|exact Below.refl _ _|refine keep_drew ?_|refine keep_alloc ?_ _|refine keep_trans ?_ (by assumption))));obtain ⟨xw20,xw21,xw22,xw2l⟩:=c3_of (keepq hkw2 Q0.out))|(go_at_call 20;refine (awake4_c _).mono ?_;rintro _ wz ⟨rfl,hbz⟩)|fail)
 refine bodyPost_ret (v := .bool true) ?_ rfl ⟨rfl,keep_trans FB.out (show Below W0.heap.size W0 wz by (repeat (first|assumption|exact Below.refl _ _|refine keep_drew ?_|refine keep_alloc ?_ _|refine keep_trans ?_ (by assumption))))⟩
 simp[results,Tryz.f12,go_sem]
theorem ltrv_p3 (r C:Int) (a:Option Addr) (n c:Nat) (aT:Option Addr) (nT cT:Nat) (w:World) (h1:¬36<n) (h2:40<nT):Calls Tryz.prog 12 #[.agg #[.int .i64 r,.int .i64 C,.slice a n c],.slice aT nT cT] w fun e w'=>e = .returned (.bool true)∧Below w.heap.size w w':=by
 have hg36:decide ((36:Int)<(n:Int))=false:=decide_eq_false (by omega)
 have hg300:decide ((300:Int)<(n:Int))=false:=decide_eq_false (by omega)
 have ht40:decide ((40:Int)<(nT:Int))=true:=decide_eq_true (by omega)
 go_enter Tryz.func12,Tryz.ntmps12
 go_upto_region 1 with fail
 have fsz:(w.alloc (.cells #[.int .i64 r,.int .i64 C,.slice a n c] 24)).heap.size=w.heap.size+1:=by simp only[World.size_alloc]
 have fB:Below w.heap.size w (w.alloc (.cells #[.int .i64 r,.int .i64 C,.slice a n c] 24)):=(Below.refl _ _).alloc (Nat.le_refl _) _
 have fq0:(w.alloc (.cells #[.int .i64 r,.int .i64 C,.slice a n c] 24)).heap[w.heap.size]?=some (.cells #[.int .i64 r,.int .i64 C,.slice a n c] 24 (0,0)):=by have h:=World.alloc_heap_new w (.cells #[.int .i64 r,.int .i64 C,.slice a n c] 24);exact h
 generalize (w.alloc (.cells #[.int .i64 r,.int .i64 C,.slice a n c] 24))=W0 at fsz fB fq0 ⊢
 have Q0:=Lib.hid fq0
 have FB:=Lib.hid fB
 obtain ⟨x0,x1,x2,xl⟩:=c3_of fq0
 clear fq0 fsz fB
 go_wp2_with (first|(go_at_call 19;(with_reducible refine (lgreat_c r C a n c 36 _).mono ?_);rintro _ w1 ⟨rfl,hbw1⟩;have hkw1:Below W0.heap.size W0 w1:=(by (repeat (first|assumption|exact Below.refl _ _|refine keep_drew ?_|refine keep_alloc ?_ _|refine keep_trans ?_ (by assumption))));obtain ⟨xw10,xw11,xw12,xw1l⟩:=c3_of (keepq hkw1 Q0.out))|(go_at_call 19;(with_reducible refine (lgreat_c r C a n c 300 _).mono ?_);rintro _ w2 ⟨rfl,hbw2⟩;have hkw2:Below W0.heap.size W0 w2:=(by (repeat (first|assumption|exact Below.refl _ _|refine keep_drew ?_|refine keep_alloc ?_ _|refine keep_trans ?_ (by assumption))));obtain ⟨xw20,xw21,xw22,xw2l⟩:=c3_of (keepq hkw2 Q0.out))|(go_at_call 20;refine (awake4_c _).mono ?_;rintro _ wz ⟨rfl,hbz⟩)|fail)
 refine bodyPost_ret (v := .bool true) ?_ rfl ⟨rfl,keep_trans FB.out (show Below W0.heap.size W0 wz by (repeat (first|assumption|exact Below.refl _ _|refine keep_drew ?_|refine keep_alloc ?_ _|refine keep_trans ?_ (by assumption))))⟩
 simp[results,Tryz.f12,go_sem]
theorem ltrv_p4 (r C:Int) (a:Option Addr) (n c:Nat) (aT:Option Addr) (nT cT:Nat) (w:World) (h0:36<n) (h1:¬300<n) (h3:¬r≤7) (h2:40<nT):Calls Tryz.prog 12 #[.agg #[.int .i64 r,.int .i64 C,.slice a n c],.slice aT nT cT] w fun e w'=>e = .returned (.bool true)∧Below w.heap.size w w':=by
 have hg36:decide ((36:Int)<(n:Int))=true:=decide_eq_true (by omega)
 have hr7:decide (r≤7)=false:=decide_eq_false (by omega)
 have hg300:decide ((300:Int)<(n:Int))=false:=decide_eq_false (by omega)
 have ht40:decide ((40:Int)<(nT:Int))=true:=decide_eq_true (by omega)
 go_enter Tryz.func12,Tryz.ntmps12
 go_upto_region 1 with fail
 have fsz:(w.alloc (.cells #[.int .i64 r,.int .i64 C,.slice a n c] 24)).heap.size=w.heap.size+1:=by simp only[World.size_alloc]
 have fB:Below w.heap.size w (w.alloc (.cells #[.int .i64 r,.int .i64 C,.slice a n c] 24)):=(Below.refl _ _).alloc (Nat.le_refl _) _
 have fq0:(w.alloc (.cells #[.int .i64 r,.int .i64 C,.slice a n c] 24)).heap[w.heap.size]?=some (.cells #[.int .i64 r,.int .i64 C,.slice a n c] 24 (0,0)):=by have h:=World.alloc_heap_new w (.cells #[.int .i64 r,.int .i64 C,.slice a n c] 24);exact h
 generalize (w.alloc (.cells #[.int .i64 r,.int .i64 C,.slice a n c] 24))=W0 at fsz fB fq0 ⊢
 have Q0:=Lib.hid fq0
 have FB:=Lib.hid fB
 obtain ⟨x0,x1,x2,xl⟩:=c3_of fq0
 clear fq0 fsz fB
 go_wp2_with (first|(go_at_call 19;(with_reducible refine (lgreat_c r C a n c 36 _).mono ?_);rintro _ w1 ⟨rfl,hbw1⟩;have hkw1:Below W0.heap.size W0 w1:=(by (repeat (first|assumption|exact Below.refl _ _|refine keep_drew ?_|refine keep_alloc ?_ _|refine keep_trans ?_ (by assumption))));obtain ⟨xw10,xw11,xw12,xw1l⟩:=c3_of (keepq hkw1 Q0.out))|(go_at_call 19;(with_reducible refine (lgreat_c r C a n c 300 _).mono ?_);rintro _ w2 ⟨rfl,hbw2⟩;have hkw2:Below W0.heap.size W0 w2:=(by (repeat (first|assumption|exact Below.refl _ _|refine keep_drew ?_|refine keep_alloc ?_ _|refine keep_trans ?_ (by assumption))));obtain ⟨xw20,xw21,xw22,xw2l⟩:=c3_of (keepq hkw2 Q0.out))|(go_at_call 20;refine (awake4_c _).mono ?_;rintro _ wz ⟨rfl,hbz⟩)|fail)
 refine bodyPost_ret (v := .bool true) ?_ rfl ⟨rfl,keep_trans FB.out (show Below W0.heap.size W0 wz by (repeat (first|assumption|exact Below.refl _ _|refine keep_drew ?_|refine keep_alloc ?_ _|refine keep_trans ?_ (by assumption))))⟩
 simp[results,Tryz.f12,go_sem]
theorem ltrv_a1 (r C:Int) (a:Option Addr) (n c:Nat) (aT:Option Addr) (nT cT:Nat) (w:World) (h300:¬300<n) (h40:¬40<nT) (h36:¬36<n) (ea:Int) (h0:ea≠0)
  (HI:∀W,Below w.heap.size w W→Calls Tryz.prog 66 #[.agg #[.int .i64 r,.int .i64 C,.slice a n c],.slice aT nT cT] W fun e w'=>e = .returned (.tuple #[.bool false,.int .i64 ea])∧Below W.heap.size W w')
  (HV:∀W,Below w.heap.size w W→Calls Tryz.prog 67 #[.agg #[.int .i64 r,.int .i64 C,.slice a n c]] W fun e w'=>∃a9 c9,e = .returned (.tuple #[.slice a9 0 c9,.int .i64 ea])∧RC w' a9 0 []∧Below W.heap.size W w')
  (HA:∀W,Below w.heap.size w W→Calls Tryz.prog 22 #[.agg #[.int .i64 r,.int .i64 C,.slice a n c]] W fun e w'=>e = .returned (.int .i64 ea)∧Below W.heap.size W w')
  : Calls Tryz.prog 12 #[.agg #[.int .i64 r,.int .i64 C,.slice a n c],.slice aT nT cT] w fun e w'=>e = .returned (.bool true)∧Below w.heap.size w w':=by
 have hg300:decide ((300:Int)<(n:Int))=false:=decide_eq_false (by omega)
 have ht40:decide ((40:Int)<(nT:Int))=false:=decide_eq_false (by omega)
 have hg36:decide ((36:Int)<(n:Int))=false:=decide_eq_false (by omega)
 have e1:(ea==0)=false:=by simpa using h0
 have e2:(ea==ea)=true:=by simp
 have e3:(ea != ea)=false:=by simp
 clear h0
 have HI:=Lib.hid HI
 have HV:=Lib.hid HV
 have HA:=Lib.hid HA
 go_enter Tryz.func12,Tryz.ntmps12
 go_upto_region 1 with fail
 have fsz:(w.alloc (.cells #[.int .i64 r,.int .i64 C,.slice a n c] 24)).heap.size=w.heap.size+1:=by simp only[World.size_alloc]
 have fB:Below w.heap.size w (w.alloc (.cells #[.int .i64 r,.int .i64 C,.slice a n c] 24)):=(Below.refl _ _).alloc (Nat.le_refl _) _
 have fq0:(w.alloc (.cells #[.int .i64 r,.int .i64 C,.slice a n c] 24)).heap[w.heap.size]?=some (.cells #[.int .i64 r,.int .i64 C,.slice a n c] 24 (0,0)):=by have h:=World.alloc_heap_new w (.cells #[.int .i64 r,.int .i64 C,.slice a n c] 24);exact h
 generalize (w.alloc (.cells #[.int .i64 r,.int .i64 C,.slice a n c] 24))=W0 at fsz fB fq0 ⊢
 have Q0:=Lib.hid fq0
 have FB:=Lib.hid fB
 obtain ⟨x0,x1,x2,xl⟩:=c3_of fq0
 clear fq0 fsz fB
 go_upto_region 9 with (first|(go_at_call 19;(with_reducible refine (lgreat_c r C a n c 36 _).mono ?_);rintro _ w1 ⟨rfl,hbw1⟩;have hkw1:Below W0.heap.size W0 w1:=(by (repeat (first|assumption|exact Below.refl _ _|refine keep_drew ?_|refine keep_alloc ?_ _|refine keep_trans ?_ (by assumption))));obtain ⟨xw10,xw11,xw12,xw1l⟩:=c3_of (keepq hkw1 Q0.out))|(go_at_call 19;(with_reducible refine (lgreat_c r C a n c 300 _).mono ?_);rintro _ w2 ⟨rfl,hbw2⟩;have hkw2:Below W0.heap.size W0 w2:=(by (repeat (first|assumption|exact Below.refl _ _|refine keep_drew ?_|refine keep_alloc ?_ _|refine keep_trans ?_ (by assumption))));obtain ⟨xw20,xw21,xw22,xw2l⟩:=c3_of (keepq hkw2 Q0.out))|(go_at_call 66;(with_reducible refine (HI.out _ (keep_trans FB.out (by (repeat (first|assumption|exact Below.refl _ _|refine keep_drew ?_|refine keep_alloc ?_ _|refine keep_trans ?_ (by assumption)))))).mono ?_);rintro _ w3 ⟨rfl,hbw3⟩;have hkw3:Below W0.heap.size W0 w3:=(by (repeat (first|assumption|exact Below.refl _ _|refine keep_drew ?_|refine keep_alloc ?_ _|refine keep_trans ?_ (by assumption))));obtain ⟨xw30,xw31,xw32,xw3l⟩:=c3_of (keepq hkw3 Q0.out))|(go_at_call 67;(with_reducible refine (HV.out _ (keep_trans FB.out (by (repeat (first|assumption|exact Below.refl _ _|refine keep_drew ?_|refine keep_alloc ?_ _|refine keep_trans ?_ (by assumption)))))).mono ?_);rintro _ w4 ⟨a9,c9,rfl,hr9,hbw4⟩;have hkw4:Below W0.heap.size W0 w4:=(by (repeat (first|assumption|exact Below.refl _ _|refine keep_drew ?_|refine keep_alloc ?_ _|refine keep_trans ?_ (by assumption))));obtain ⟨xw40,xw41,xw42,xw4l⟩:=c3_of (keepq hkw4 Q0.out))|(go_at_call 22;(with_reducible refine (HA.out _ (keep_trans FB.out (by (repeat (first|assumption|exact Below.refl _ _|refine keep_drew ?_|refine keep_alloc ?_ _|refine keep_trans ?_ (by assumption)))))).mono ?_);rintro _ w5 ⟨rfl,hbw5⟩;have hkw5:Below W0.heap.size W0 w5:=(by (repeat (first|assumption|exact Below.refl _ _|refine keep_drew ?_|refine keep_alloc ?_ _|refine keep_trans ?_ (by assumption))));obtain ⟨xw50,xw51,xw52,xw5l⟩:=c3_of (keepq hkw5 Q0.out))|fail)
 have hB5:Below W0.heap.size W0 w5:=by (repeat (first|assumption|exact Below.refl _ _|refine keep_drew ?_|refine keep_alloc ?_ _|refine keep_trans ?_ (by assumption)))
 have HB5:=Lib.hid (keep_trans FB.out hB5)
 have Q5:=Lib.hid (keepq hB5 Q0.out)
 have HR9:=Lib.hid (hr9.mono hbw5)
 clear hB5 hr9
 clear x0 x1 x2 xl xw10 xw11 xw12 xw1l hkw1 hbw1 xw20 xw21 xw22 xw2l hkw2 hbw2 xw30 xw31 xw32 xw3l hkw3 hbw3 xw40 xw41 xw42 xw4l hkw4 hbw4 xw50 xw51 xw52 xw5l hkw5 hbw5
 obtain ⟨x0,x1,x2,xl⟩:=c3_of Q5.out
 go_wp2_with fail
 go_loopw [10,11] (fun s10 s11 wr=>s10 = .int .i64 ea∧s11 = .int .i64 0∧Hid (Below w5.heap.size w5 wr)) (fun _ _ _=>0)
 case atStart=>exact ⟨rfl,rfl,Below.refl _ _⟩
 case round =>
  obtain ⟨rfl,rfl,hbr⟩:=hrel
  clear x0 x1 x2 xl
  obtain ⟨x0,x1,x2,xl⟩:=c3_of (keepq hbr.out Q5.out)
  by_cases hn0:0<nT
  ·have hd0:decide (0<nT)=true:=decide_eq_true hn0
   have hd1:(0:Int)<(nT:Int):=by omega
   have HLS:=Lib.hid (fun W (hb:Below w5.heap.size w5 W)=>llists_t a9 0 c9 [] none 0 W (HR9.out.mono hb) ⟨⟨rfl,by omega⟩,fun k hk=>absurd hk (by omega)⟩)
   go_wp2_with (first|(go_at_call 70;(with_reducible refine (HLS.out _ (keep_trans hbr.out (by (repeat (first|assumption|exact Below.refl _ _|refine keep_drew ?_|refine keep_alloc ?_ _|refine keep_trans ?_ (by assumption)))))).mono ?_);rintro _ w9 ⟨rfl,hb9⟩)|(go_at_call 20;refine (awake4_c _).mono ?_;rintro _ wz ⟨rfl,hbz⟩)|fail)
   refine bodyPost_ret (v := .bool true) ?_ rfl ⟨rfl,keep_trans (keep_trans HB5.out hbr.out) (show Below wr.heap.size wr wz by (repeat (first|assumption|exact Below.refl _ _|refine keep_drew ?_|refine keep_alloc ?_ _|refine keep_trans ?_ (by assumption))))⟩
   simp[results,Tryz.f12,go_sem]
  ·have hd0:decide (0<nT)=false:=decide_eq_false hn0
   have hd1:¬(0:Int)<(nT:Int):=by omega
   have HLS:=Lib.hid (fun W (hb:Below w5.heap.size w5 W)=>llists_t a9 0 c9 [] none 0 W (HR9.out.mono hb) ⟨⟨rfl,by omega⟩,fun k hk=>absurd hk (by omega)⟩)
   go_wp2_with (first|(go_at_call 70;(with_reducible refine (HLS.out _ (keep_trans hbr.out (by (repeat (first|assumption|exact Below.refl _ _|refine keep_drew ?_|refine keep_alloc ?_ _|refine keep_trans ?_ (by assumption)))))).mono ?_);rintro _ w9 ⟨rfl,hb9⟩)|(go_at_call 20;refine (awake4_c _).mono ?_;rintro _ wz ⟨rfl,hbz⟩)|fail)
   refine bodyPost_ret (v := .bool true) ?_ rfl ⟨rfl,keep_trans (keep_trans HB5.out hbr.out) (show Below wr.heap.size wr wz by (repeat (first|assumption|exact Below.refl _ _|refine keep_drew ?_|refine keep_alloc ?_ _|refine keep_trans ?_ (by assumption))))⟩
   simp[results,Tryz.f12,go_sem]
theorem ltrv_a2 (r C:Int) (a:Option Addr) (n c:Nat) (aT:Option Addr) (nT cT:Nat) (w:World) (h300:¬300<n) (h40:¬40<nT) (h36:36<n) (hr:¬r≤7) (ea:Int) (h0:ea≠0)
  (HI:∀W,Below w.heap.size w W→Calls Tryz.prog 66 #[.agg #[.int .i64 r,.int .i64 C,.slice a n c],.slice aT nT cT] W fun e w'=>e = .returned (.tuple #[.bool false,.int .i64 ea])∧Below W.heap.size W w')
  (HV:∀W,Below w.heap.size w W→Calls Tryz.prog 67 #[.agg #[.int .i64 r,.int .i64 C,.slice a n c]] W fun e w'=>∃a9 c9,e = .returned (.tuple #[.slice a9 0 c9,.int .i64 ea])∧RC w' a9 0 []∧Below W.heap.size W w')
  (HA:∀W,Below w.heap.size w W→Calls Tryz.prog 22 #[.agg #[.int .i64 r,.int .i64 C,.slice a n c]] W fun e w'=>e = .returned (.int .i64 ea)∧Below W.heap.size W w')
  : Calls Tryz.prog 12 #[.agg #[.int .i64 r,.int .i64 C,.slice a n c],.slice aT nT cT] w fun e w'=>e = .returned (.bool true)∧Below w.heap.size w w':=by
 have hg300:decide ((300:Int)<(n:Int))=false:=decide_eq_false (by omega)
 have ht40:decide ((40:Int)<(nT:Int))=false:=decide_eq_false (by omega)
 have hg36:decide ((36:Int)<(n:Int))=true:=decide_eq_true (by omega)
 have hr7:decide (r≤7)=false:=decide_eq_false hr
 have e1:(ea==0)=false:=by simpa using h0
 have e2:(ea==ea)=true:=by simp
 have e3:(ea != ea)=false:=by simp
 clear h0
 have HI:=Lib.hid HI
 have HV:=Lib.hid HV
 have HA:=Lib.hid HA
 go_enter Tryz.func12,Tryz.ntmps12
 go_upto_region 1 with fail
 have fsz:(w.alloc (.cells #[.int .i64 r,.int .i64 C,.slice a n c] 24)).heap.size=w.heap.size+1:=by simp only[World.size_alloc]
 have fB:Below w.heap.size w (w.alloc (.cells #[.int .i64 r,.int .i64 C,.slice a n c] 24)):=(Below.refl _ _).alloc (Nat.le_refl _) _
 have fq0:(w.alloc (.cells #[.int .i64 r,.int .i64 C,.slice a n c] 24)).heap[w.heap.size]?=some (.cells #[.int .i64 r,.int .i64 C,.slice a n c] 24 (0,0)):=by have h:=World.alloc_heap_new w (.cells #[.int .i64 r,.int .i64 C,.slice a n c] 24);exact h
 generalize (w.alloc (.cells #[.int .i64 r,.int .i64 C,.slice a n c] 24))=W0 at fsz fB fq0 ⊢
 have Q0:=Lib.hid fq0
 have FB:=Lib.hid fB
 obtain ⟨x0,x1,x2,xl⟩:=c3_of fq0
 clear fq0 fsz fB
 go_upto_region 9 with (first|(go_at_call 19;(with_reducible refine (lgreat_c r C a n c 36 _).mono ?_);rintro _ w1 ⟨rfl,hbw1⟩;have hkw1:Below W0.heap.size W0 w1:=(by (repeat (first|assumption|exact Below.refl _ _|refine keep_drew ?_|refine keep_alloc ?_ _|refine keep_trans ?_ (by assumption))));obtain ⟨xw10,xw11,xw12,xw1l⟩:=c3_of (keepq hkw1 Q0.out))|(go_at_call 19;(with_reducible refine (lgreat_c r C a n c 300 _).mono ?_);rintro _ w2 ⟨rfl,hbw2⟩;have hkw2:Below W0.heap.size W0 w2:=(by (repeat (first|assumption|exact Below.refl _ _|refine keep_drew ?_|refine keep_alloc ?_ _|refine keep_trans ?_ (by assumption))));obtain ⟨xw20,xw21,xw22,xw2l⟩:=c3_of (keepq hkw2 Q0.out))|(go_at_call 66;(with_reducible refine (HI.out _ (keep_trans FB.out (by (repeat (first|assumption|exact Below.refl _ _|refine keep_drew ?_|refine keep_alloc ?_ _|refine keep_trans ?_ (by assumption)))))).mono ?_);rintro _ w3 ⟨rfl,hbw3⟩;have hkw3:Below W0.heap.size W0 w3:=(by (repeat (first|assumption|exact Below.refl _ _|refine keep_drew ?_|refine keep_alloc ?_ _|refine keep_trans ?_ (by assumption))));obtain ⟨xw30,xw31,xw32,xw3l⟩:=c3_of (keepq hkw3 Q0.out))|(go_at_call 67;(with_reducible refine (HV.out _ (keep_trans FB.out (by (repeat (first|assumption|exact Below.refl _ _|refine keep_drew ?_|refine keep_alloc ?_ _|refine keep_trans ?_ (by assumption)))))).mono ?_);rintro _ w4 ⟨a9,c9,rfl,hr9,hbw4⟩;have hkw4:Below W0.heap.size W0 w4:=(by (repeat (first|assumption|exact Below.refl _ _|refine keep_drew ?_|refine keep_alloc ?_ _|refine keep_trans ?_ (by assumption))));obtain ⟨xw40,xw41,xw42,xw4l⟩:=c3_of (keepq hkw4 Q0.out))|(go_at_call 22;(with_reducible refine (HA.out _ (keep_trans FB.out (by (repeat (first|assumption|exact Below.refl _ _|refine keep_drew ?_|refine keep_alloc ?_ _|refine keep_trans ?_ (by assumption)))))).mono ?_);rintro _ w5 ⟨rfl,hbw5⟩;have hkw5:Below W0.heap.size W0 w5:=(by (repeat (first|assumption|exact Below.refl _ _|refine keep_drew ?_|refine keep_alloc ?_ _|refine keep_trans ?_ (by assumption))));obtain ⟨xw50,xw51,xw52,xw5l⟩:=c3_of (keepq hkw5 Q0.out))|fail)
 have hB5:Below W0.heap.size W0 w5:=by (repeat (first|assumption|exact Below.refl _ _|refine keep_drew ?_|refine keep_alloc ?_ _|refine keep_trans ?_ (by assumption)))
 have HB5:=Lib.hid (keep_trans FB.out hB5)
 have Q5:=Lib.hid (keepq hB5 Q0.out)
 have HR9:=Lib.hid (hr9.mono hbw5)
 clear hB5 hr9
 clear x0 x1 x2 xl xw10 xw11 xw12 xw1l hkw1 hbw1 xw20 xw21 xw22 xw2l hkw2 hbw2 xw30 xw31 xw32 xw3l hkw3 hbw3 xw40 xw41 xw42 xw4l hkw4 hbw4 xw50 xw51 xw52 xw5l hkw5 hbw5
 obtain ⟨x0,x1,x2,xl⟩:=c3_of Q5.out
 go_wp2_with fail
 go_loopw [10,11] (fun s10 s11 wr=>s10 = .int .i64 ea∧s11 = .int .i64 0∧Hid (Below w5.heap.size w5 wr)) (fun _ _ _=>0)
 case atStart=>exact ⟨rfl,rfl,Below.refl _ _⟩
 case round =>
  obtain ⟨rfl,rfl,hbr⟩:=hrel
  clear x0 x1 x2 xl
  obtain ⟨x0,x1,x2,xl⟩:=c3_of (keepq hbr.out Q5.out)
  by_cases hn0:0<nT
  ·have hd0:decide (0<nT)=true:=decide_eq_true hn0
   have hd1:(0:Int)<(nT:Int):=by omega
   have HLS:=Lib.hid (fun W (hb:Below w5.heap.size w5 W)=>llists_t a9 0 c9 [] none 0 W (HR9.out.mono hb) ⟨⟨rfl,by omega⟩,fun k hk=>absurd hk (by omega)⟩)
   go_wp2_with (first|(go_at_call 70;(with_reducible refine (HLS.out _ (keep_trans hbr.out (by (repeat (first|assumption|exact Below.refl _ _|refine keep_drew ?_|refine keep_alloc ?_ _|refine keep_trans ?_ (by assumption)))))).mono ?_);rintro _ w9 ⟨rfl,hb9⟩)|(go_at_call 20;refine (awake4_c _).mono ?_;rintro _ wz ⟨rfl,hbz⟩)|fail)
   refine bodyPost_ret (v := .bool true) ?_ rfl ⟨rfl,keep_trans (keep_trans HB5.out hbr.out) (show Below wr.heap.size wr wz by (repeat (first|assumption|exact Below.refl _ _|refine keep_drew ?_|refine keep_alloc ?_ _|refine keep_trans ?_ (by assumption))))⟩
   simp[results,Tryz.f12,go_sem]
  ·have hd0:decide (0<nT)=false:=decide_eq_false hn0
   have hd1:¬(0:Int)<(nT:Int):=by omega
   have HLS:=Lib.hid (fun W (hb:Below w5.heap.size w5 W)=>llists_t a9 0 c9 [] none 0 W (HR9.out.mono hb) ⟨⟨rfl,by omega⟩,fun k hk=>absurd hk (by omega)⟩)
   go_wp2_with (first|(go_at_call 70;(with_reducible refine (HLS.out _ (keep_trans hbr.out (by (repeat (first|assumption|exact Below.refl _ _|refine keep_drew ?_|refine keep_alloc ?_ _|refine keep_trans ?_ (by assumption)))))).mono ?_);rintro _ w9 ⟨rfl,hb9⟩)|(go_at_call 20;refine (awake4_c _).mono ?_;rintro _ wz ⟨rfl,hbz⟩)|fail)
   refine bodyPost_ret (v := .bool true) ?_ rfl ⟨rfl,keep_trans (keep_trans HB5.out hbr.out) (show Below wr.heap.size wr wz by (repeat (first|assumption|exact Below.refl _ _|refine keep_drew ?_|refine keep_alloc ?_ _|refine keep_trans ?_ (by assumption))))⟩
   simp[results,Tryz.f12,go_sem]
theorem ltrv_2s (r C:Int) (a:Option Addr) (n c:Nat) (aT:Option Addr) (nT cT:Nat) (w:World) (h300:¬300<n) (h40:¬40<nT) (h36:¬36<n) (hnr:((nT:Int) != r)=true) (h7:¬7<r) (m:Nat) (TT:List (List Int))
  (HI:∀W,Below w.heap.size w W→Calls Tryz.prog 66 #[.agg #[.int .i64 r,.int .i64 C,.slice a n c],.slice aT nT cT] W fun e w'=>e = .returned (.tuple #[.bool false,.int .i64 2])∧Below W.heap.size W w')
  (HV:∀W,Below w.heap.size w W→Calls Tryz.prog 67 #[.agg #[.int .i64 r,.int .i64 C,.slice a n c]] W fun e w'=>∃a9 c9,e = .returned (.tuple #[.slice a9 m c9,.int .i64 0])∧RC w' a9 m TT∧Below W.heap.size W w')
  (HA:∀W,Below w.heap.size w W→Calls Tryz.prog 22 #[.agg #[.int .i64 r,.int .i64 C,.slice a n c]] W fun e w'=>e = .returned (.int .i64 0)∧Below W.heap.size W w')
  (HR:∀W,Below w.heap.size w W→Calls Tryz.prog 69 #[.agg #[.int .i64 r,.int .i64 C,.slice a n c]] W fun e w'=>∃a8 c8,e = .returned (.slice a8 m c8)∧RC w' a8 m TT∧Below W.heap.size W w')
  : Calls Tryz.prog 12 #[.agg #[.int .i64 r,.int .i64 C,.slice a n c],.slice aT nT cT] w fun e w'=>e = .returned (.bool true)∧Below w.heap.size w w':=by
 have hg300:decide ((300:Int)<(n:Int))=false:=decide_eq_false (by omega)
 have ht40:decide ((40:Int)<(nT:Int))=false:=decide_eq_false (by omega)
 have hg36:decide ((36:Int)<(n:Int))=false:=decide_eq_false (by omega)
 have hb7:decide (7<r)=false:=decide_eq_false (by omega)
 have HI:=Lib.hid HI
 have HV:=Lib.hid HV
 have HA:=Lib.hid HA
 have HR:=Lib.hid HR
 go_enter Tryz.func12,Tryz.ntmps12
 go_upto_region 1 with fail
 have fsz:(w.alloc (.cells #[.int .i64 r,.int .i64 C,.slice a n c] 24)).heap.size=w.heap.size+1:=by simp only[World.size_alloc]
 have fB:Below w.heap.size w (w.alloc (.cells #[.int .i64 r,.int .i64 C,.slice a n c] 24)):=(Below.refl _ _).alloc (Nat.le_refl _) _
 have fq0:(w.alloc (.cells #[.int .i64 r,.int .i64 C,.slice a n c] 24)).heap[w.heap.size]?=some (.cells #[.int .i64 r,.int .i64 C,.slice a n c] 24 (0,0)):=by have h:=World.alloc_heap_new w (.cells #[.int .i64 r,.int .i64 C,.slice a n c] 24);exact h
 generalize (w.alloc (.cells #[.int .i64 r,.int .i64 C,.slice a n c] 24))=W0 at fsz fB fq0 ⊢
 have Q0:=Lib.hid fq0
 have FB:=Lib.hid fB
 obtain ⟨x0,x1,x2,xl⟩:=c3_of fq0
 clear fq0 fsz fB
 go_upto_region 9 with (first|(go_at_call 19;(with_reducible refine (lgreat_c r C a n c 36 _).mono ?_);rintro _ w1 ⟨rfl,hbw1⟩;have hkw1:Below W0.heap.size W0 w1:=(by (repeat (first|assumption|exact Below.refl _ _|refine keep_drew ?_|refine keep_alloc ?_ _|refine keep_trans ?_ (by assumption))));obtain ⟨xw10,xw11,xw12,xw1l⟩:=c3_of (keepq hkw1 Q0.out))|(go_at_call 19;(with_reducible refine (lgreat_c r C a n c 300 _).mono ?_);rintro _ w2 ⟨rfl,hbw2⟩;have hkw2:Below W0.heap.size W0 w2:=(by (repeat (first|assumption|exact Below.refl _ _|refine keep_drew ?_|refine keep_alloc ?_ _|refine keep_trans ?_ (by assumption))));obtain ⟨xw20,xw21,xw22,xw2l⟩:=c3_of (keepq hkw2 Q0.out))|(go_at_call 66;(with_reducible refine (HI.out _ (keep_trans FB.out (by (repeat (first|assumption|exact Below.refl _ _|refine keep_drew ?_|refine keep_alloc ?_ _|refine keep_trans ?_ (by assumption)))))).mono ?_);rintro _ w3 ⟨rfl,hbw3⟩;have hkw3:Below W0.heap.size W0 w3:=(by (repeat (first|assumption|exact Below.refl _ _|refine keep_drew ?_|refine keep_alloc ?_ _|refine keep_trans ?_ (by assumption))));obtain ⟨xw30,xw31,xw32,xw3l⟩:=c3_of (keepq hkw3 Q0.out))|(go_at_call 67;(with_reducible refine (HV.out _ (keep_trans FB.out (by (repeat (first|assumption|exact Below.refl _ _|refine keep_drew ?_|refine keep_alloc ?_ _|refine keep_trans ?_ (by assumption)))))).mono ?_);rintro _ w4 ⟨a9,c9,rfl,hr9,hbw4⟩;have hkw4:Below W0.heap.size W0 w4:=(by (repeat (first|assumption|exact Below.refl _ _|refine keep_drew ?_|refine keep_alloc ?_ _|refine keep_trans ?_ (by assumption))));obtain ⟨xw40,xw41,xw42,xw4l⟩:=c3_of (keepq hkw4 Q0.out))|(go_at_call 22;(with_reducible refine (HA.out _ (keep_trans FB.out (by (repeat (first|assumption|exact Below.refl _ _|refine keep_drew ?_|refine keep_alloc ?_ _|refine keep_trans ?_ (by assumption)))))).mono ?_);rintro _ w5 ⟨rfl,hbw5⟩;have hkw5:Below W0.heap.size W0 w5:=(by (repeat (first|assumption|exact Below.refl _ _|refine keep_drew ?_|refine keep_alloc ?_ _|refine keep_trans ?_ (by assumption))));obtain ⟨xw50,xw51,xw52,xw5l⟩:=c3_of (keepq hkw5 Q0.out))|fail)
 have hB5:Below W0.heap.size W0 w5:=by (repeat (first|assumption|exact Below.refl _ _|refine keep_drew ?_|refine keep_alloc ?_ _|refine keep_trans ?_ (by assumption)))
 have HB5:=Lib.hid (keep_trans FB.out hB5)
 have Q5:=Lib.hid (keepq hB5 Q0.out)
 have HR9:=Lib.hid (hr9.mono hbw5)
 clear hB5 hr9
 clear x0 x1 x2 xl xw10 xw11 xw12 xw1l hkw1 hbw1 xw20 xw21 xw22 xw2l hkw2 hbw2 xw30 xw31 xw32 xw3l hkw3 hbw3 xw40 xw41 xw42 xw4l hkw4 hbw4 xw50 xw51 xw52 xw5l hkw5 hbw5
 obtain ⟨x0,x1,x2,xl⟩:=c3_of Q5.out
 go_wp2_with fail
 go_loopw [10,11] (fun s10 s11 wr=>s10 = .int .i64 2∧s11 = .int .i64 0∧Hid (Below w5.heap.size w5 wr)) (fun _ _ _=>0)
 case atStart=>exact ⟨rfl,rfl,Below.refl _ _⟩
 case round =>
  obtain ⟨rfl,rfl,hbr⟩:=hrel
  clear x0 x1 x2 xl
  obtain ⟨x0,x1,x2,xl⟩:=c3_of (keepq hbr.out Q5.out)
  by_cases hn0:0<nT
  ·have hd0:decide (0<nT)=true:=decide_eq_true hn0
   have hd1:(0:Int)<(nT:Int):=by omega
   go_upto_region 21 with (first|(go_at_call 69;(with_reducible refine (HR.out _ (keep_trans (keep_trans HB5.out hbr.out) (by (repeat (first|assumption|exact Below.refl _ _|refine keep_drew ?_|refine keep_alloc ?_ _|refine keep_trans ?_ (by assumption)))))).mono ?_);rintro _ w8 ⟨a8,c8,rfl,hr8,hb8⟩)|fail)
   have hB8:Below wr.heap.size wr w8:=by (repeat (first|assumption|exact Below.refl _ _|refine keep_drew ?_|refine keep_alloc ?_ _|refine keep_trans ?_ (by assumption)))
   have HR8:=Lib.hid hr8
   have HBB:=Lib.hid (keep_trans hbr.out hB8)
   have HLS:=Lib.hid (fun W (hb:Below w8.heap.size w8 W)=>llists_t a9 m c9 TT a8 c8 W (HR9.out.mono (keep_trans HBB.out hb)) (HR8.out.mono hb))
   go_wp2_with (first|(go_at_call 70;(with_reducible refine (HLS.out _ (Below.refl _ _)).mono ?_);rintro _ w9 ⟨rfl,hb9⟩)|(go_at_call 20;refine (awake4_c _).mono ?_;rintro _ wz ⟨rfl,hbz⟩)|fail)
   refine bodyPost_ret (v := .bool true) ?_ rfl ⟨rfl,keep_trans (keep_trans HB5.out HBB.out) (show Below w8.heap.size w8 wz by (repeat (first|assumption|exact Below.refl _ _|refine keep_drew ?_|refine keep_alloc ?_ _|refine keep_trans ?_ (by assumption))))⟩
   simp[results,Tryz.f12,go_sem]
  ·have hd0:decide (0<nT)=false:=decide_eq_false hn0
   have hd1:¬(0:Int)<(nT:Int):=by omega
   go_upto_region 21 with (first|(go_at_call 69;(with_reducible refine (HR.out _ (keep_trans (keep_trans HB5.out hbr.out) (by (repeat (first|assumption|exact Below.refl _ _|refine keep_drew ?_|refine keep_alloc ?_ _|refine keep_trans ?_ (by assumption)))))).mono ?_);rintro _ w8 ⟨a8,c8,rfl,hr8,hb8⟩)|fail)
   have hB8:Below wr.heap.size wr w8:=by (repeat (first|assumption|exact Below.refl _ _|refine keep_drew ?_|refine keep_alloc ?_ _|refine keep_trans ?_ (by assumption)))
   have HR8:=Lib.hid hr8
   have HBB:=Lib.hid (keep_trans hbr.out hB8)
   have HLS:=Lib.hid (fun W (hb:Below w8.heap.size w8 W)=>llists_t a9 m c9 TT a8 c8 W (HR9.out.mono (keep_trans HBB.out hb)) (HR8.out.mono hb))
   go_wp2_with (first|(go_at_call 70;(with_reducible refine (HLS.out _ (Below.refl _ _)).mono ?_);rintro _ w9 ⟨rfl,hb9⟩)|(go_at_call 20;refine (awake4_c _).mono ?_;rintro _ wz ⟨rfl,hbz⟩)|fail)
   refine bodyPost_ret (v := .bool true) ?_ rfl ⟨rfl,keep_trans (keep_trans HB5.out HBB.out) (show Below w8.heap.size w8 wz by (repeat (first|assumption|exact Below.refl _ _|refine keep_drew ?_|refine keep_alloc ?_ _|refine keep_trans ?_ (by assumption))))⟩
   simp[results,Tryz.f12,go_sem]
theorem ltrv_2b (r C:Int) (a:Option Addr) (n c:Nat) (aT:Option Addr) (nT cT:Nat) (w:World) (h300:¬300<n) (h40:¬40<nT) (h36:36<n) (hr:¬r≤7) (hnr:((nT:Int) != r)=true) (h7:7<r)
  (HI:∀W,Below w.heap.size w W→Calls Tryz.prog 66 #[.agg #[.int .i64 r,.int .i64 C,.slice a n c],.slice aT nT cT] W fun e w'=>e = .returned (.tuple #[.bool false,.int .i64 2])∧Below W.heap.size W w')
  (HV:∀W,Below w.heap.size w W→Calls Tryz.prog 67 #[.agg #[.int .i64 r,.int .i64 C,.slice a n c]] W fun e w'=>∃a9 c9,e = .returned (.tuple #[.slice a9 0 c9,.int .i64 20])∧RC w' a9 0 []∧Below W.heap.size W w')
  (HA:∀W,Below w.heap.size w W→Calls Tryz.prog 22 #[.agg #[.int .i64 r,.int .i64 C,.slice a n c]] W fun e w'=>e = .returned (.int .i64 0)∧Below W.heap.size W w')
  : Calls Tryz.prog 12 #[.agg #[.int .i64 r,.int .i64 C,.slice a n c],.slice aT nT cT] w fun e w'=>e = .returned (.bool true)∧Below w.heap.size w w':=by
 have hg300:decide ((300:Int)<(n:Int))=false:=decide_eq_false (by omega)
 have ht40:decide ((40:Int)<(nT:Int))=false:=decide_eq_false (by omega)
 have hg36:decide ((36:Int)<(n:Int))=true:=decide_eq_true (by omega)
 have hr7:decide (r≤7)=false:=decide_eq_false hr
 have hb7:decide (7<r)=true:=decide_eq_true (by omega)
 have HI:=Lib.hid HI
 have HV:=Lib.hid HV
 have HA:=Lib.hid HA
 go_enter Tryz.func12,Tryz.ntmps12
 go_upto_region 1 with fail
 have fsz:(w.alloc (.cells #[.int .i64 r,.int .i64 C,.slice a n c] 24)).heap.size=w.heap.size+1:=by simp only[World.size_alloc]
 have fB:Below w.heap.size w (w.alloc (.cells #[.int .i64 r,.int .i64 C,.slice a n c] 24)):=(Below.refl _ _).alloc (Nat.le_refl _) _
 have fq0:(w.alloc (.cells #[.int .i64 r,.int .i64 C,.slice a n c] 24)).heap[w.heap.size]?=some (.cells #[.int .i64 r,.int .i64 C,.slice a n c] 24 (0,0)):=by have h:=World.alloc_heap_new w (.cells #[.int .i64 r,.int .i64 C,.slice a n c] 24);exact h
 generalize (w.alloc (.cells #[.int .i64 r,.int .i64 C,.slice a n c] 24))=W0 at fsz fB fq0 ⊢
 have Q0:=Lib.hid fq0
 have FB:=Lib.hid fB
 obtain ⟨x0,x1,x2,xl⟩:=c3_of fq0
 clear fq0 fsz fB
 go_upto_region 9 with (first|(go_at_call 19;(with_reducible refine (lgreat_c r C a n c 36 _).mono ?_);rintro _ w1 ⟨rfl,hbw1⟩;have hkw1:Below W0.heap.size W0 w1:=(by (repeat (first|assumption|exact Below.refl _ _|refine keep_drew ?_|refine keep_alloc ?_ _|refine keep_trans ?_ (by assumption))));obtain ⟨xw10,xw11,xw12,xw1l⟩:=c3_of (keepq hkw1 Q0.out))|(go_at_call 19;(with_reducible refine (lgreat_c r C a n c 300 _).mono ?_);rintro _ w2 ⟨rfl,hbw2⟩;have hkw2:Below W0.heap.size W0 w2:=(by (repeat (first|assumption|exact Below.refl _ _|refine keep_drew ?_|refine keep_alloc ?_ _|refine keep_trans ?_ (by assumption))));obtain ⟨xw20,xw21,xw22,xw2l⟩:=c3_of (keepq hkw2 Q0.out))|(go_at_call 66;(with_reducible refine (HI.out _ (keep_trans FB.out (by (repeat (first|assumption|exact Below.refl _ _|refine keep_drew ?_|refine keep_alloc ?_ _|refine keep_trans ?_ (by assumption)))))).mono ?_);rintro _ w3 ⟨rfl,hbw3⟩;have hkw3:Below W0.heap.size W0 w3:=(by (repeat (first|assumption|exact Below.refl _ _|refine keep_drew ?_|refine keep_alloc ?_ _|refine keep_trans ?_ (by assumption))));obtain ⟨xw30,xw31,xw32,xw3l⟩:=c3_of (keepq hkw3 Q0.out))|(go_at_call 67;(with_reducible refine (HV.out _ (keep_trans FB.out (by (repeat (first|assumption|exact Below.refl _ _|refine keep_drew ?_|refine keep_alloc ?_ _|refine keep_trans ?_ (by assumption)))))).mono ?_);rintro _ w4 ⟨a9,c9,rfl,hr9,hbw4⟩;have hkw4:Below W0.heap.size W0 w4:=(by (repeat (first|assumption|exact Below.refl _ _|refine keep_drew ?_|refine keep_alloc ?_ _|refine keep_trans ?_ (by assumption))));obtain ⟨xw40,xw41,xw42,xw4l⟩:=c3_of (keepq hkw4 Q0.out))|(go_at_call 22;(with_reducible refine (HA.out _ (keep_trans FB.out (by (repeat (first|assumption|exact Below.refl _ _|refine keep_drew ?_|refine keep_alloc ?_ _|refine keep_trans ?_ (by assumption)))))).mono ?_);rintro _ w5 ⟨rfl,hbw5⟩;have hkw5:Below W0.heap.size W0 w5:=(by (repeat (first|assumption|exact Below.refl _ _|refine keep_drew ?_|refine keep_alloc ?_ _|refine keep_trans ?_ (by assumption))));obtain ⟨xw50,xw51,xw52,xw5l⟩:=c3_of (keepq hkw5 Q0.out))|fail)
 have hB5:Below W0.heap.size W0 w5:=by (repeat (first|assumption|exact Below.refl _ _|refine keep_drew ?_|refine keep_alloc ?_ _|refine keep_trans ?_ (by assumption)))
 have HB5:=Lib.hid (keep_trans FB.out hB5)
 have Q5:=Lib.hid (keepq hB5 Q0.out)
 have HR9:=Lib.hid (hr9.mono hbw5)
 clear hB5 hr9
 clear x0 x1 x2 xl xw10 xw11 xw12 xw1l hkw1 hbw1 xw20 xw21 xw22 xw2l hkw2 hbw2 xw30 xw31 xw32 xw3l hkw3 hbw3 xw40 xw41 xw42 xw4l hkw4 hbw4 xw50 xw51 xw52 xw5l hkw5 hbw5
 obtain ⟨x0,x1,x2,xl⟩:=c3_of Q5.out
 go_wp2_with fail
 go_loopw [10,11] (fun s10 s11 wr=>s10 = .int .i64 2∧s11 = .int .i64 0∧Hid (Below w5.heap.size w5 wr)) (fun _ _ _=>0)
 case atStart=>exact ⟨rfl,rfl,Below.refl _ _⟩
 case round =>
  obtain ⟨rfl,rfl,hbr⟩:=hrel
  clear x0 x1 x2 xl
  obtain ⟨x0,x1,x2,xl⟩:=c3_of (keepq hbr.out Q5.out)
  by_cases hn0:0<nT
  ·have hd0:decide (0<nT)=true:=decide_eq_true hn0
   have hd1:(0:Int)<(nT:Int):=by omega
   have HLS:=Lib.hid (fun W (hb:Below w5.heap.size w5 W)=>llists_t a9 0 c9 [] none 0 W (HR9.out.mono hb) ⟨⟨rfl,by omega⟩,fun k hk=>absurd hk (by omega)⟩)
   go_wp2_with (first|(go_at_call 70;(with_reducible refine (HLS.out _ (keep_trans hbr.out (by (repeat (first|assumption|exact Below.refl _ _|refine keep_drew ?_|refine keep_alloc ?_ _|refine keep_trans ?_ (by assumption)))))).mono ?_);rintro _ w9 ⟨rfl,hb9⟩)|(go_at_call 20;refine (awake4_c _).mono ?_;rintro _ wz ⟨rfl,hbz⟩)|fail)
   refine bodyPost_ret (v := .bool true) ?_ rfl ⟨rfl,keep_trans (keep_trans HB5.out hbr.out) (show Below wr.heap.size wr wz by (repeat (first|assumption|exact Below.refl _ _|refine keep_drew ?_|refine keep_alloc ?_ _|refine keep_trans ?_ (by assumption))))⟩
   simp[results,Tryz.f12,go_sem]
  ·have hd0:decide (0<nT)=false:=decide_eq_false hn0
   have hd1:¬(0:Int)<(nT:Int):=by omega
   have HLS:=Lib.hid (fun W (hb:Below w5.heap.size w5 W)=>llists_t a9 0 c9 [] none 0 W (HR9.out.mono hb) ⟨⟨rfl,by omega⟩,fun k hk=>absurd hk (by omega)⟩)
   go_wp2_with (first|(go_at_call 70;(with_reducible refine (HLS.out _ (keep_trans hbr.out (by (repeat (first|assumption|exact Below.refl _ _|refine keep_drew ?_|refine keep_alloc ?_ _|refine keep_trans ?_ (by assumption)))))).mono ?_);rintro _ w9 ⟨rfl,hb9⟩)|(go_at_call 20;refine (awake4_c _).mono ?_;rintro _ wz ⟨rfl,hbz⟩)|fail)
   refine bodyPost_ret (v := .bool true) ?_ rfl ⟨rfl,keep_trans (keep_trans HB5.out hbr.out) (show Below wr.heap.size wr wz by (repeat (first|assumption|exact Below.refl _ _|refine keep_drew ?_|refine keep_alloc ?_ _|refine keep_trans ?_ (by assumption))))⟩
   simp[results,Tryz.f12,go_sem]
theorem ltrv_3s (r C:Int) (a:Option Addr) (n c:Nat) (aT:Option Addr) (nT cT:Nat) (w:World) (h300:¬300<n) (h40:¬40<nT) (h36:¬36<n) (hnr:((nT:Int) != r)=false) (ts:List Int) (hT:IC w aT nT ts) (i0:Nat) (hi0:i0<nT) (hin:∀j,j<i0→0≤ts[j]?.getD 0∧ts[j]?.getD 0<r) (hout:ts[i0]?.getD 0<0∨r≤ts[i0]?.getD 0) (h7:¬7<r) (m:Nat) (TT:List (List Int))
  (HI:∀W,Below w.heap.size w W→Calls Tryz.prog 66 #[.agg #[.int .i64 r,.int .i64 C,.slice a n c],.slice aT nT cT] W fun e w'=>e = .returned (.tuple #[.bool false,.int .i64 3])∧Below W.heap.size W w')
  (HV:∀W,Below w.heap.size w W→Calls Tryz.prog 67 #[.agg #[.int .i64 r,.int .i64 C,.slice a n c]] W fun e w'=>∃a9 c9,e = .returned (.tuple #[.slice a9 m c9,.int .i64 0])∧RC w' a9 m TT∧Below W.heap.size W w')
  (HA:∀W,Below w.heap.size w W→Calls Tryz.prog 22 #[.agg #[.int .i64 r,.int .i64 C,.slice a n c]] W fun e w'=>e = .returned (.int .i64 0)∧Below W.heap.size W w')
  (HR:∀W,Below w.heap.size w W→Calls Tryz.prog 69 #[.agg #[.int .i64 r,.int .i64 C,.slice a n c]] W fun e w'=>∃a8 c8,e = .returned (.slice a8 m c8)∧RC w' a8 m TT∧Below W.heap.size W w')
  : Calls Tryz.prog 12 #[.agg #[.int .i64 r,.int .i64 C,.slice a n c],.slice aT nT cT] w fun e w'=>e = .returned (.bool true)∧Below w.heap.size w w':=by
 have hg300:decide ((300:Int)<(n:Int))=false:=decide_eq_false (by omega)
 have ht40:decide ((40:Int)<(nT:Int))=false:=decide_eq_false (by omega)
 have hg36:decide ((36:Int)<(n:Int))=false:=decide_eq_false (by omega)
 have hb7:decide (7<r)=false:=decide_eq_false (by omega)
 have HI:=Lib.hid HI
 have HV:=Lib.hid HV
 have HA:=Lib.hid HA
 have HR:=Lib.hid HR
 have HTT:=Lib.hid hT
 have hsT:=hT.small
 have HIN:=Lib.hid hin
 have HOUT:=Lib.hid hout
 clear hT hin hout
 go_enter Tryz.func12,Tryz.ntmps12
 go_upto_region 1 with fail
 have fsz:(w.alloc (.cells #[.int .i64 r,.int .i64 C,.slice a n c] 24)).heap.size=w.heap.size+1:=by simp only[World.size_alloc]
 have fB:Below w.heap.size w (w.alloc (.cells #[.int .i64 r,.int .i64 C,.slice a n c] 24)):=(Below.refl _ _).alloc (Nat.le_refl _) _
 have fq0:(w.alloc (.cells #[.int .i64 r,.int .i64 C,.slice a n c] 24)).heap[w.heap.size]?=some (.cells #[.int .i64 r,.int .i64 C,.slice a n c] 24 (0,0)):=by have h:=World.alloc_heap_new w (.cells #[.int .i64 r,.int .i64 C,.slice a n c] 24);exact h
 generalize (w.alloc (.cells #[.int .i64 r,.int .i64 C,.slice a n c] 24))=W0 at fsz fB fq0 ⊢
 have Q0:=Lib.hid fq0
 have FB:=Lib.hid fB
 obtain ⟨x0,x1,x2,xl⟩:=c3_of fq0
 clear fq0 fsz fB
 go_upto_region 9 with (first|(go_at_call 19;(with_reducible refine (lgreat_c r C a n c 36 _).mono ?_);rintro _ w1 ⟨rfl,hbw1⟩;have hkw1:Below W0.heap.size W0 w1:=(by (repeat (first|assumption|exact Below.refl _ _|refine keep_drew ?_|refine keep_alloc ?_ _|refine keep_trans ?_ (by assumption))));obtain ⟨xw10,xw11,xw12,xw1l⟩:=c3_of (keepq hkw1 Q0.out))|(go_at_call 19;(with_reducible refine (lgreat_c r C a n c 300 _).mono ?_);rintro _ w2 ⟨rfl,hbw2⟩;have hkw2:Below W0.heap.size W0 w2:=(by (repeat (first|assumption|exact Below.refl _ _|refine keep_drew ?_|refine keep_alloc ?_ _|refine keep_trans ?_ (by assumption))));obtain ⟨xw20,xw21,xw22,xw2l⟩:=c3_of (keepq hkw2 Q0.out))|(go_at_call 66;(with_reducible refine (HI.out _ (keep_trans FB.out (by (repeat (first|assumption|exact Below.refl _ _|refine keep_drew ?_|refine keep_alloc ?_ _|refine keep_trans ?_ (by assumption)))))).mono ?_);rintro _ w3 ⟨rfl,hbw3⟩;have hkw3:Below W0.heap.size W0 w3:=(by (repeat (first|assumption|exact Below.refl _ _|refine keep_drew ?_|refine keep_alloc ?_ _|refine keep_trans ?_ (by assumption))));obtain ⟨xw30,xw31,xw32,xw3l⟩:=c3_of (keepq hkw3 Q0.out))|(go_at_call 67;(with_reducible refine (HV.out _ (keep_trans FB.out (by (repeat (first|assumption|exact Below.refl _ _|refine keep_drew ?_|refine keep_alloc ?_ _|refine keep_trans ?_ (by assumption)))))).mono ?_);rintro _ w4 ⟨a9,c9,rfl,hr9,hbw4⟩;have hkw4:Below W0.heap.size W0 w4:=(by (repeat (first|assumption|exact Below.refl _ _|refine keep_drew ?_|refine keep_alloc ?_ _|refine keep_trans ?_ (by assumption))));obtain ⟨xw40,xw41,xw42,xw4l⟩:=c3_of (keepq hkw4 Q0.out))|(go_at_call 22;(with_reducible refine (HA.out _ (keep_trans FB.out (by (repeat (first|assumption|exact Below.refl _ _|refine keep_drew ?_|refine keep_alloc ?_ _|refine keep_trans ?_ (by assumption)))))).mono ?_);rintro _ w5 ⟨rfl,hbw5⟩;have hkw5:Below W0.heap.size W0 w5:=(by (repeat (first|assumption|exact Below.refl _ _|refine keep_drew ?_|refine keep_alloc ?_ _|refine keep_trans ?_ (by assumption))));obtain ⟨xw50,xw51,xw52,xw5l⟩:=c3_of (keepq hkw5 Q0.out))|fail)
 have hB5:Below W0.heap.size W0 w5:=by (repeat (first|assumption|exact Below.refl _ _|refine keep_drew ?_|refine keep_alloc ?_ _|refine keep_trans ?_ (by assumption)))
 have HB5:=Lib.hid (keep_trans FB.out hB5)
 have Q5:=Lib.hid (keepq hB5 Q0.out)
 have HR9:=Lib.hid (hr9.mono hbw5)
 clear hB5 hr9
 clear x0 x1 x2 xl xw10 xw11 xw12 xw1l hkw1 hbw1 xw20 xw21 xw22 xw2l hkw2 hbw2 xw30 xw31 xw32 xw3l hkw3 hbw3 xw40 xw41 xw42 xw4l hkw4 hbw4 xw50 xw51 xw52 xw5l hkw5 hbw5
 obtain ⟨x0,x1,x2,xl⟩:=c3_of Q5.out
 go_wp2_with fail
 go_loopw [10,11] (fun s10 s11 wr=>∃i:Nat,s11 = .int .i64 (i:Int)∧((i≤i0∧s10 = .int .i64 0)∨(i=i0+1∧s10 = .int .i64 3))∧Hid (Below w5.heap.size w5 wr)) (fun _ s11 _=>nT - (intOf s11).toNat)
 case atStart=>exact ⟨0,rfl,.inl ⟨by omega,rfl⟩,Below.refl _ _⟩
 case round =>
  obtain ⟨i,rfl,hst,hbr⟩:=hrel
  clear x0 x1 x2 xl
  obtain ⟨x0,x1,x2,xl⟩:=c3_of (keepq hbr.out Q5.out)
  rcases hst with ⟨hle,rfl⟩|⟨he,rfl⟩
  ·have hlt:i<nT:=by omega
   have hii:(i:Int)<(nT:Int):=by omega
   have hdi:decide (i<nT)=true:=decide_eq_true hlt
   obtain ⟨b1,off1,rfl,hbl1,hc1⟩:=(HTT.out.mono (keep_trans HB5.out hbr.out)).2 i hlt
   by_cases hlt2:i<i0
   ·obtain ⟨h1,h2⟩:=HIN.out i hlt2
    generalize ts[i]?.getD 0=y at hc1 h1 h2
    have dy1:decide (y<0)=false:=decide_eq_false (by omega)
    have dy2:decide (r≤y)=false:=decide_eq_false (by omega)
    go_wp2_with fail
    refine wp_region_S (fun w'=>∃u,w'=over (wr) u) [] [(0,0),(0,1),(0,2),(0,3),(0,4),(0,5),(0,6),(0,7),(0,8),(0,9),(0,10),(0,11),(0,12),(0,13)] (by kernel_rfl) (by kernel_rfl) (by exact ⟨_,below_over (by repeat (first|assumption|exact Below.refl _ _|refine keep_drew ?_|refine keep_alloc ?_ _|refine keep_trans ?_ (by assumption)))⟩) ?_
    dsimp only[pickOps,nthOp]
    repeat (first|(refine wpS_skip rfl (fun K hK=>?_);go_big_quiet_op;refine hK _ ?_;clear hK K)|(refine wpS_quiet rfl rfl (fun K hK=>?_);go_big_quiet_op;refine hK _ ?_;clear hK K))
    refine wpS_end ?_
    go_wp2_with fail
    go_roundw
    case rel=>exact ⟨i+1,by go_num,.inl ⟨by omega,rfl⟩,hbr.out.drew⟩
    case measure=>simp[intOf];omega
   ·have e:i=i0:=by omega
    have hy:=HOUT.out
    rw[← e] at hy
    generalize ts[i]?.getD 0=y at hc1 hy
    clear e
    by_cases hy0:y<0
    ·have dy1:decide (y<0)=true:=decide_eq_true hy0
     go_wp2_with fail
     refine wp_region_S (fun w'=>∃u,w'=over (wr) u) [] [(0,0),(0,1),(0,2),(0,3),(0,4),(0,5),(0,6),(0,7),(0,8),(0,9),(0,10),(0,11),(0,12),(0,13)] (by kernel_rfl) (by kernel_rfl) (by exact ⟨_,below_over (by repeat (first|assumption|exact Below.refl _ _|refine keep_drew ?_|refine keep_alloc ?_ _|refine keep_trans ?_ (by assumption)))⟩) ?_
     dsimp only[pickOps,nthOp]
     repeat (first|(refine wpS_skip rfl (fun K hK=>?_);go_big_quiet_op;refine hK _ ?_;clear hK K)|(refine wpS_quiet rfl rfl (fun K hK=>?_);go_big_quiet_op;refine hK _ ?_;clear hK K))
     refine wpS_end ?_
     go_wp2_with fail
     go_roundw
     case rel=>exact ⟨i+1,by go_num,.inr ⟨by omega,rfl⟩,hbr.out.drew⟩
     case measure=>simp[intOf];omega
    ·have dy1:decide (y<0)=false:=decide_eq_false hy0
     have dy2:decide (r≤y)=true:=decide_eq_true (by omega)
     go_wp2_with fail
     refine wp_region_S (fun w'=>∃u,w'=over (wr) u) [] [(0,0),(0,1),(0,2),(0,3),(0,4),(0,5),(0,6),(0,7),(0,8),(0,9),(0,10),(0,11),(0,12),(0,13)] (by kernel_rfl) (by kernel_rfl) (by exact ⟨_,below_over (by repeat (first|assumption|exact Below.refl _ _|refine keep_drew ?_|refine keep_alloc ?_ _|refine keep_trans ?_ (by assumption)))⟩) ?_
     dsimp only[pickOps,nthOp]
     repeat (first|(refine wpS_skip rfl (fun K hK=>?_);go_big_quiet_op;refine hK _ ?_;clear hK K)|(refine wpS_quiet rfl rfl (fun K hK=>?_);go_big_quiet_op;refine hK _ ?_;clear hK K))
     refine wpS_end ?_
     go_wp2_with fail
     go_roundw
     case rel=>exact ⟨i+1,by go_num,.inr ⟨by omega,rfl⟩,hbr.out.drew⟩
     case measure=>simp[intOf];omega
  ·clear he
   by_cases hlt:i<nT
   ·have hdi:decide (i<nT)=true:=decide_eq_true hlt
    have hii:(i:Int)<(nT:Int):=by omega
    go_upto_region 21 with (first|(go_at_call 69;(with_reducible refine (HR.out _ (keep_trans (keep_trans HB5.out hbr.out) (by (repeat (first|assumption|exact Below.refl _ _|refine keep_drew ?_|refine keep_alloc ?_ _|refine keep_trans ?_ (by assumption)))))).mono ?_);rintro _ w8 ⟨a8,c8,rfl,hr8,hb8⟩)|fail)
    have hB8:Below wr.heap.size wr w8:=by (repeat (first|assumption|exact Below.refl _ _|refine keep_drew ?_|refine keep_alloc ?_ _|refine keep_trans ?_ (by assumption)))
    have HR8:=Lib.hid hr8
    have HBB:=Lib.hid (keep_trans hbr.out hB8)
    have HLS:=Lib.hid (fun W (hb:Below w8.heap.size w8 W)=>llists_t a9 m c9 TT a8 c8 W (HR9.out.mono (keep_trans HBB.out hb)) (HR8.out.mono hb))
    go_wp2_with (first|(go_at_call 70;(with_reducible refine (HLS.out _ (Below.refl _ _)).mono ?_);rintro _ w9 ⟨rfl,hb9⟩)|(go_at_call 20;refine (awake4_c _).mono ?_;rintro _ wz ⟨rfl,hbz⟩)|fail)
    refine bodyPost_ret (v := .bool true) ?_ rfl ⟨rfl,keep_trans (keep_trans HB5.out HBB.out) (show Below w8.heap.size w8 wz by (repeat (first|assumption|exact Below.refl _ _|refine keep_drew ?_|refine keep_alloc ?_ _|refine keep_trans ?_ (by assumption))))⟩
    simp[results,Tryz.f12,go_sem]
   ·have hdi:decide (i<nT)=false:=decide_eq_false hlt
    have hii:¬(i:Int)<(nT:Int):=by omega
    go_upto_region 21 with (first|(go_at_call 69;(with_reducible refine (HR.out _ (keep_trans (keep_trans HB5.out hbr.out) (by (repeat (first|assumption|exact Below.refl _ _|refine keep_drew ?_|refine keep_alloc ?_ _|refine keep_trans ?_ (by assumption)))))).mono ?_);rintro _ w8 ⟨a8,c8,rfl,hr8,hb8⟩)|fail)
    have hB8:Below wr.heap.size wr w8:=by (repeat (first|assumption|exact Below.refl _ _|refine keep_drew ?_|refine keep_alloc ?_ _|refine keep_trans ?_ (by assumption)))
    have HR8:=Lib.hid hr8
    have HBB:=Lib.hid (keep_trans hbr.out hB8)
    have HLS:=Lib.hid (fun W (hb:Below w8.heap.size w8 W)=>llists_t a9 m c9 TT a8 c8 W (HR9.out.mono (keep_trans HBB.out hb)) (HR8.out.mono hb))
    go_wp2_with (first|(go_at_call 70;(with_reducible refine (HLS.out _ (Below.refl _ _)).mono ?_);rintro _ w9 ⟨rfl,hb9⟩)|(go_at_call 20;refine (awake4_c _).mono ?_;rintro _ wz ⟨rfl,hbz⟩)|fail)
    refine bodyPost_ret (v := .bool true) ?_ rfl ⟨rfl,keep_trans (keep_trans HB5.out HBB.out) (show Below w8.heap.size w8 wz by (repeat (first|assumption|exact Below.refl _ _|refine keep_drew ?_|refine keep_alloc ?_ _|refine keep_trans ?_ (by assumption))))⟩
    simp[results,Tryz.f12,go_sem]
theorem ltrv_3b (r C:Int) (a:Option Addr) (n c:Nat) (aT:Option Addr) (nT cT:Nat) (w:World) (h300:¬300<n) (h40:¬40<nT) (h36:36<n) (hr:¬r≤7) (hnr:((nT:Int) != r)=false) (ts:List Int) (hT:IC w aT nT ts) (i0:Nat) (hi0:i0<nT) (hin:∀j,j<i0→0≤ts[j]?.getD 0∧ts[j]?.getD 0<r) (hout:ts[i0]?.getD 0<0∨r≤ts[i0]?.getD 0) (h7:7<r)
  (HI:∀W,Below w.heap.size w W→Calls Tryz.prog 66 #[.agg #[.int .i64 r,.int .i64 C,.slice a n c],.slice aT nT cT] W fun e w'=>e = .returned (.tuple #[.bool false,.int .i64 3])∧Below W.heap.size W w')
  (HV:∀W,Below w.heap.size w W→Calls Tryz.prog 67 #[.agg #[.int .i64 r,.int .i64 C,.slice a n c]] W fun e w'=>∃a9 c9,e = .returned (.tuple #[.slice a9 0 c9,.int .i64 20])∧RC w' a9 0 []∧Below W.heap.size W w')
  (HA:∀W,Below w.heap.size w W→Calls Tryz.prog 22 #[.agg #[.int .i64 r,.int .i64 C,.slice a n c]] W fun e w'=>e = .returned (.int .i64 0)∧Below W.heap.size W w')
  : Calls Tryz.prog 12 #[.agg #[.int .i64 r,.int .i64 C,.slice a n c],.slice aT nT cT] w fun e w'=>e = .returned (.bool true)∧Below w.heap.size w w':=by
 have hg300:decide ((300:Int)<(n:Int))=false:=decide_eq_false (by omega)
 have ht40:decide ((40:Int)<(nT:Int))=false:=decide_eq_false (by omega)
 have hg36:decide ((36:Int)<(n:Int))=true:=decide_eq_true (by omega)
 have hr7:decide (r≤7)=false:=decide_eq_false hr
 have hb7:decide (7<r)=true:=decide_eq_true (by omega)
 have HI:=Lib.hid HI
 have HV:=Lib.hid HV
 have HA:=Lib.hid HA
 have HTT:=Lib.hid hT
 have hsT:=hT.small
 have HIN:=Lib.hid hin
 have HOUT:=Lib.hid hout
 clear hT hin hout
 go_enter Tryz.func12,Tryz.ntmps12
 go_upto_region 1 with fail
 have fsz:(w.alloc (.cells #[.int .i64 r,.int .i64 C,.slice a n c] 24)).heap.size=w.heap.size+1:=by simp only[World.size_alloc]
 have fB:Below w.heap.size w (w.alloc (.cells #[.int .i64 r,.int .i64 C,.slice a n c] 24)):=(Below.refl _ _).alloc (Nat.le_refl _) _
 have fq0:(w.alloc (.cells #[.int .i64 r,.int .i64 C,.slice a n c] 24)).heap[w.heap.size]?=some (.cells #[.int .i64 r,.int .i64 C,.slice a n c] 24 (0,0)):=by have h:=World.alloc_heap_new w (.cells #[.int .i64 r,.int .i64 C,.slice a n c] 24);exact h
 generalize (w.alloc (.cells #[.int .i64 r,.int .i64 C,.slice a n c] 24))=W0 at fsz fB fq0 ⊢
 have Q0:=Lib.hid fq0
 have FB:=Lib.hid fB
 obtain ⟨x0,x1,x2,xl⟩:=c3_of fq0
 clear fq0 fsz fB
 go_upto_region 9 with (first|(go_at_call 19;(with_reducible refine (lgreat_c r C a n c 36 _).mono ?_);rintro _ w1 ⟨rfl,hbw1⟩;have hkw1:Below W0.heap.size W0 w1:=(by (repeat (first|assumption|exact Below.refl _ _|refine keep_drew ?_|refine keep_alloc ?_ _|refine keep_trans ?_ (by assumption))));obtain ⟨xw10,xw11,xw12,xw1l⟩:=c3_of (keepq hkw1 Q0.out))|(go_at_call 19;(with_reducible refine (lgreat_c r C a n c 300 _).mono ?_);rintro _ w2 ⟨rfl,hbw2⟩;have hkw2:Below W0.heap.size W0 w2:=(by (repeat (first|assumption|exact Below.refl _ _|refine keep_drew ?_|refine keep_alloc ?_ _|refine keep_trans ?_ (by assumption))));obtain ⟨xw20,xw21,xw22,xw2l⟩:=c3_of (keepq hkw2 Q0.out))|(go_at_call 66;(with_reducible refine (HI.out _ (keep_trans FB.out (by (repeat (first|assumption|exact Below.refl _ _|refine keep_drew ?_|refine keep_alloc ?_ _|refine keep_trans ?_ (by assumption)))))).mono ?_);rintro _ w3 ⟨rfl,hbw3⟩;have hkw3:Below W0.heap.size W0 w3:=(by (repeat (first|assumption|exact Below.refl _ _|refine keep_drew ?_|refine keep_alloc ?_ _|refine keep_trans ?_ (by assumption))));obtain ⟨xw30,xw31,xw32,xw3l⟩:=c3_of (keepq hkw3 Q0.out))|(go_at_call 67;(with_reducible refine (HV.out _ (keep_trans FB.out (by (repeat (first|assumption|exact Below.refl _ _|refine keep_drew ?_|refine keep_alloc ?_ _|refine keep_trans ?_ (by assumption)))))).mono ?_);rintro _ w4 ⟨a9,c9,rfl,hr9,hbw4⟩;have hkw4:Below W0.heap.size W0 w4:=(by (repeat (first|assumption|exact Below.refl _ _|refine keep_drew ?_|refine keep_alloc ?_ _|refine keep_trans ?_ (by assumption))));obtain ⟨xw40,xw41,xw42,xw4l⟩:=c3_of (keepq hkw4 Q0.out))|(go_at_call 22;(with_reducible refine (HA.out _ (keep_trans FB.out (by (repeat (first|assumption|exact Below.refl _ _|refine keep_drew ?_|refine keep_alloc ?_ _|refine keep_trans ?_ (by assumption)))))).mono ?_);rintro _ w5 ⟨rfl,hbw5⟩;have hkw5:Below W0.heap.size W0 w5:=(by (repeat (first|assumption|exact Below.refl _ _|refine keep_drew ?_|refine keep_alloc ?_ _|refine keep_trans ?_ (by assumption))));obtain ⟨xw50,xw51,xw52,xw5l⟩:=c3_of (keepq hkw5 Q0.out))|fail)
 have hB5:Below W0.heap.size W0 w5:=by (repeat (first|assumption|exact Below.refl _ _|refine keep_drew ?_|refine keep_alloc ?_ _|refine keep_trans ?_ (by assumption)))
 have HB5:=Lib.hid (keep_trans FB.out hB5)
 have Q5:=Lib.hid (keepq hB5 Q0.out)
 have HR9:=Lib.hid (hr9.mono hbw5)
 clear hB5 hr9
 clear x0 x1 x2 xl xw10 xw11 xw12 xw1l hkw1 hbw1 xw20 xw21 xw22 xw2l hkw2 hbw2 xw30 xw31 xw32 xw3l hkw3 hbw3 xw40 xw41 xw42 xw4l hkw4 hbw4 xw50 xw51 xw52 xw5l hkw5 hbw5
 obtain ⟨x0,x1,x2,xl⟩:=c3_of Q5.out
 go_wp2_with fail
 go_loopw [10,11] (fun s10 s11 wr=>∃i:Nat,s11 = .int .i64 (i:Int)∧((i≤i0∧s10 = .int .i64 0)∨(i=i0+1∧s10 = .int .i64 3))∧Hid (Below w5.heap.size w5 wr)) (fun _ s11 _=>nT - (intOf s11).toNat)
 case atStart=>exact ⟨0,rfl,.inl ⟨by omega,rfl⟩,Below.refl _ _⟩
 case round =>
  obtain ⟨i,rfl,hst,hbr⟩:=hrel
  clear x0 x1 x2 xl
  obtain ⟨x0,x1,x2,xl⟩:=c3_of (keepq hbr.out Q5.out)
  rcases hst with ⟨hle,rfl⟩|⟨he,rfl⟩
  ·have hlt:i<nT:=by omega
   have hii:(i:Int)<(nT:Int):=by omega
   have hdi:decide (i<nT)=true:=decide_eq_true hlt
   obtain ⟨b1,off1,rfl,hbl1,hc1⟩:=(HTT.out.mono (keep_trans HB5.out hbr.out)).2 i hlt
   by_cases hlt2:i<i0
   ·obtain ⟨h1,h2⟩:=HIN.out i hlt2
    generalize ts[i]?.getD 0=y at hc1 h1 h2
    have dy1:decide (y<0)=false:=decide_eq_false (by omega)
    have dy2:decide (r≤y)=false:=decide_eq_false (by omega)
    go_wp2_with fail
    refine wp_region_S (fun w'=>∃u,w'=over (wr) u) [] [(0,0),(0,1),(0,2),(0,3),(0,4),(0,5),(0,6),(0,7),(0,8),(0,9),(0,10),(0,11),(0,12),(0,13)] (by kernel_rfl) (by kernel_rfl) (by exact ⟨_,below_over (by repeat (first|assumption|exact Below.refl _ _|refine keep_drew ?_|refine keep_alloc ?_ _|refine keep_trans ?_ (by assumption)))⟩) ?_
    dsimp only[pickOps,nthOp]
    repeat (first|(refine wpS_skip rfl (fun K hK=>?_);go_big_quiet_op;refine hK _ ?_;clear hK K)|(refine wpS_quiet rfl rfl (fun K hK=>?_);go_big_quiet_op;refine hK _ ?_;clear hK K))
    refine wpS_end ?_
    go_wp2_with fail
    go_roundw
    case rel=>exact ⟨i+1,by go_num,.inl ⟨by omega,rfl⟩,hbr.out.drew⟩
    case measure=>simp[intOf];omega
   ·have e:i=i0:=by omega
    have hy:=HOUT.out
    rw[← e] at hy
    generalize ts[i]?.getD 0=y at hc1 hy
    clear e
    by_cases hy0:y<0
    ·have dy1:decide (y<0)=true:=decide_eq_true hy0
     go_wp2_with fail
     refine wp_region_S (fun w'=>∃u,w'=over (wr) u) [] [(0,0),(0,1),(0,2),(0,3),(0,4),(0,5),(0,6),(0,7),(0,8),(0,9),(0,10),(0,11),(0,12),(0,13)] (by kernel_rfl) (by kernel_rfl) (by exact ⟨_,below_over (by repeat (first|assumption|exact Below.refl _ _|refine keep_drew ?_|refine keep_alloc ?_ _|refine keep_trans ?_ (by assumption)))⟩) ?_
     dsimp only[pickOps,nthOp]
     repeat (first|(refine wpS_skip rfl (fun K hK=>?_);go_big_quiet_op;refine hK _ ?_;clear hK K)|(refine wpS_quiet rfl rfl (fun K hK=>?_);go_big_quiet_op;refine hK _ ?_;clear hK K))
     refine wpS_end ?_
     go_wp2_with fail
     go_roundw
     case rel=>exact ⟨i+1,by go_num,.inr ⟨by omega,rfl⟩,hbr.out.drew⟩
     case measure=>simp[intOf];omega
    ·have dy1:decide (y<0)=false:=decide_eq_false hy0
     have dy2:decide (r≤y)=true:=decide_eq_true (by omega)
     go_wp2_with fail
     refine wp_region_S (fun w'=>∃u,w'=over (wr) u) [] [(0,0),(0,1),(0,2),(0,3),(0,4),(0,5),(0,6),(0,7),(0,8),(0,9),(0,10),(0,11),(0,12),(0,13)] (by kernel_rfl) (by kernel_rfl) (by exact ⟨_,below_over (by repeat (first|assumption|exact Below.refl _ _|refine keep_drew ?_|refine keep_alloc ?_ _|refine keep_trans ?_ (by assumption)))⟩) ?_
     dsimp only[pickOps,nthOp]
     repeat (first|(refine wpS_skip rfl (fun K hK=>?_);go_big_quiet_op;refine hK _ ?_;clear hK K)|(refine wpS_quiet rfl rfl (fun K hK=>?_);go_big_quiet_op;refine hK _ ?_;clear hK K))
     refine wpS_end ?_
     go_wp2_with fail
     go_roundw
     case rel=>exact ⟨i+1,by go_num,.inr ⟨by omega,rfl⟩,hbr.out.drew⟩
     case measure=>simp[intOf];omega
  ·clear he
   by_cases hlt:i<nT
   ·have hdi:decide (i<nT)=true:=decide_eq_true hlt
    have hii:(i:Int)<(nT:Int):=by omega
    have HLS:=Lib.hid (fun W (hb:Below w5.heap.size w5 W)=>llists_t a9 0 c9 [] none 0 W (HR9.out.mono hb) ⟨⟨rfl,by omega⟩,fun k hk=>absurd hk (by omega)⟩)
    go_wp2_with (first|(go_at_call 70;(with_reducible refine (HLS.out _ (keep_trans hbr.out (by (repeat (first|assumption|exact Below.refl _ _|refine keep_drew ?_|refine keep_alloc ?_ _|refine keep_trans ?_ (by assumption)))))).mono ?_);rintro _ w9 ⟨rfl,hb9⟩)|(go_at_call 20;refine (awake4_c _).mono ?_;rintro _ wz ⟨rfl,hbz⟩)|fail)
    refine bodyPost_ret (v := .bool true) ?_ rfl ⟨rfl,keep_trans (keep_trans HB5.out hbr.out) (show Below wr.heap.size wr wz by (repeat (first|assumption|exact Below.refl _ _|refine keep_drew ?_|refine keep_alloc ?_ _|refine keep_trans ?_ (by assumption))))⟩
    simp[results,Tryz.f12,go_sem]
   ·have hdi:decide (i<nT)=false:=decide_eq_false hlt
    have hii:¬(i:Int)<(nT:Int):=by omega
    have HLS:=Lib.hid (fun W (hb:Below w5.heap.size w5 W)=>llists_t a9 0 c9 [] none 0 W (HR9.out.mono hb) ⟨⟨rfl,by omega⟩,fun k hk=>absurd hk (by omega)⟩)
    go_wp2_with (first|(go_at_call 70;(with_reducible refine (HLS.out _ (keep_trans hbr.out (by (repeat (first|assumption|exact Below.refl _ _|refine keep_drew ?_|refine keep_alloc ?_ _|refine keep_trans ?_ (by assumption)))))).mono ?_);rintro _ w9 ⟨rfl,hb9⟩)|(go_at_call 20;refine (awake4_c _).mono ?_;rintro _ wz ⟨rfl,hbz⟩)|fail)
    refine bodyPost_ret (v := .bool true) ?_ rfl ⟨rfl,keep_trans (keep_trans HB5.out hbr.out) (show Below wr.heap.size wr wz by (repeat (first|assumption|exact Below.refl _ _|refine keep_drew ?_|refine keep_alloc ?_ _|refine keep_trans ?_ (by assumption))))⟩
    simp[results,Tryz.f12,go_sem]
theorem ltrv_0s (r C:Int) (a:Option Addr) (n c:Nat) (aT:Option Addr) (nT cT:Nat) (w:World) (h300:¬300<n) (h40:¬40<nT) (h36:¬36<n) (hnr:((nT:Int) != r)=false) (ts:List Int) (hT:IC w aT nT ts) (hin:∀j,j<nT→0≤ts[j]?.getD 0∧ts[j]?.getD 0<r) (B:Bool) (h7:¬7<r) (m:Nat) (TT:List (List Int))
  (HI:∀W,Below w.heap.size w W→Calls Tryz.prog 66 #[.agg #[.int .i64 r,.int .i64 C,.slice a n c],.slice aT nT cT] W fun e w'=>e = .returned (.tuple #[.bool B,.int .i64 0])∧Below W.heap.size W w')
  (HV:∀W,Below w.heap.size w W→Calls Tryz.prog 67 #[.agg #[.int .i64 r,.int .i64 C,.slice a n c]] W fun e w'=>∃a9 c9,e = .returned (.tuple #[.slice a9 m c9,.int .i64 0])∧RC w' a9 m TT∧Below W.heap.size W w')
  (HA:∀W,Below w.heap.size w W→Calls Tryz.prog 22 #[.agg #[.int .i64 r,.int .i64 C,.slice a n c]] W fun e w'=>e = .returned (.int .i64 0)∧Below W.heap.size W w')
  (HT:∀W,Below w.heap.size w W→Calls Tryz.prog 68 #[.agg #[.int .i64 r,.int .i64 C,.slice a n c],.slice aT nT cT] W fun e w'=>e = .returned (.bool B)∧Below W.heap.size W w')
  (HR:∀W,Below w.heap.size w W→Calls Tryz.prog 69 #[.agg #[.int .i64 r,.int .i64 C,.slice a n c]] W fun e w'=>∃a8 c8,e = .returned (.slice a8 m c8)∧RC w' a8 m TT∧Below W.heap.size W w')
  : Calls Tryz.prog 12 #[.agg #[.int .i64 r,.int .i64 C,.slice a n c],.slice aT nT cT] w fun e w'=>e = .returned (.bool true)∧Below w.heap.size w w':=by
 have hg300:decide ((300:Int)<(n:Int))=false:=decide_eq_false (by omega)
 have ht40:decide ((40:Int)<(nT:Int))=false:=decide_eq_false (by omega)
 have hg36:decide ((36:Int)<(n:Int))=false:=decide_eq_false (by omega)
 have hb7:decide (7<r)=false:=decide_eq_false (by omega)
 have HI:=Lib.hid HI
 have HV:=Lib.hid HV
 have HA:=Lib.hid HA
 have HT:=Lib.hid HT
 have HR:=Lib.hid HR
 have hBB:(B != B)=false:=by cases B <;> rfl
 have HTT:=Lib.hid hT
 have hsT:=hT.small
 have HIN:=Lib.hid hin
 clear hT hin
 go_enter Tryz.func12,Tryz.ntmps12
 go_upto_region 1 with fail
 have fsz:(w.alloc (.cells #[.int .i64 r,.int .i64 C,.slice a n c] 24)).heap.size=w.heap.size+1:=by simp only[World.size_alloc]
 have fB:Below w.heap.size w (w.alloc (.cells #[.int .i64 r,.int .i64 C,.slice a n c] 24)):=(Below.refl _ _).alloc (Nat.le_refl _) _
 have fq0:(w.alloc (.cells #[.int .i64 r,.int .i64 C,.slice a n c] 24)).heap[w.heap.size]?=some (.cells #[.int .i64 r,.int .i64 C,.slice a n c] 24 (0,0)):=by have h:=World.alloc_heap_new w (.cells #[.int .i64 r,.int .i64 C,.slice a n c] 24);exact h
 generalize (w.alloc (.cells #[.int .i64 r,.int .i64 C,.slice a n c] 24))=W0 at fsz fB fq0 ⊢
 have Q0:=Lib.hid fq0
 have FB:=Lib.hid fB
 obtain ⟨x0,x1,x2,xl⟩:=c3_of fq0
 clear fq0 fsz fB
 go_upto_region 9 with (first|(go_at_call 19;(with_reducible refine (lgreat_c r C a n c 36 _).mono ?_);rintro _ w1 ⟨rfl,hbw1⟩;have hkw1:Below W0.heap.size W0 w1:=(by (repeat (first|assumption|exact Below.refl _ _|refine keep_drew ?_|refine keep_alloc ?_ _|refine keep_trans ?_ (by assumption))));obtain ⟨xw10,xw11,xw12,xw1l⟩:=c3_of (keepq hkw1 Q0.out))|(go_at_call 19;(with_reducible refine (lgreat_c r C a n c 300 _).mono ?_);rintro _ w2 ⟨rfl,hbw2⟩;have hkw2:Below W0.heap.size W0 w2:=(by (repeat (first|assumption|exact Below.refl _ _|refine keep_drew ?_|refine keep_alloc ?_ _|refine keep_trans ?_ (by assumption))));obtain ⟨xw20,xw21,xw22,xw2l⟩:=c3_of (keepq hkw2 Q0.out))|(go_at_call 66;(with_reducible refine (HI.out _ (keep_trans FB.out (by (repeat (first|assumption|exact Below.refl _ _|refine keep_drew ?_|refine keep_alloc ?_ _|refine keep_trans ?_ (by assumption)))))).mono ?_);rintro _ w3 ⟨rfl,hbw3⟩;have hkw3:Below W0.heap.size W0 w3:=(by (repeat (first|assumption|exact Below.refl _ _|refine keep_drew ?_|refine keep_alloc ?_ _|refine keep_trans ?_ (by assumption))));obtain ⟨xw30,xw31,xw32,xw3l⟩:=c3_of (keepq hkw3 Q0.out))|(go_at_call 67;(with_reducible refine (HV.out _ (keep_trans FB.out (by (repeat (first|assumption|exact Below.refl _ _|refine keep_drew ?_|refine keep_alloc ?_ _|refine keep_trans ?_ (by assumption)))))).mono ?_);rintro _ w4 ⟨a9,c9,rfl,hr9,hbw4⟩;have hkw4:Below W0.heap.size W0 w4:=(by (repeat (first|assumption|exact Below.refl _ _|refine keep_drew ?_|refine keep_alloc ?_ _|refine keep_trans ?_ (by assumption))));obtain ⟨xw40,xw41,xw42,xw4l⟩:=c3_of (keepq hkw4 Q0.out))|(go_at_call 22;(with_reducible refine (HA.out _ (keep_trans FB.out (by (repeat (first|assumption|exact Below.refl _ _|refine keep_drew ?_|refine keep_alloc ?_ _|refine keep_trans ?_ (by assumption)))))).mono ?_);rintro _ w5 ⟨rfl,hbw5⟩;have hkw5:Below W0.heap.size W0 w5:=(by (repeat (first|assumption|exact Below.refl _ _|refine keep_drew ?_|refine keep_alloc ?_ _|refine keep_trans ?_ (by assumption))));obtain ⟨xw50,xw51,xw52,xw5l⟩:=c3_of (keepq hkw5 Q0.out))|fail)
 have hB5:Below W0.heap.size W0 w5:=by (repeat (first|assumption|exact Below.refl _ _|refine keep_drew ?_|refine keep_alloc ?_ _|refine keep_trans ?_ (by assumption)))
 have HB5:=Lib.hid (keep_trans FB.out hB5)
 have Q5:=Lib.hid (keepq hB5 Q0.out)
 have HR9:=Lib.hid (hr9.mono hbw5)
 clear hB5 hr9
 clear x0 x1 x2 xl xw10 xw11 xw12 xw1l hkw1 hbw1 xw20 xw21 xw22 xw2l hkw2 hbw2 xw30 xw31 xw32 xw3l hkw3 hbw3 xw40 xw41 xw42 xw4l hkw4 hbw4 xw50 xw51 xw52 xw5l hkw5 hbw5
 obtain ⟨x0,x1,x2,xl⟩:=c3_of Q5.out
 go_wp2_with fail
 go_loopw [10,11] (fun s10 s11 wr=>∃i:Nat,i≤nT∧s11 = .int .i64 (i:Int)∧s10 = .int .i64 0∧Hid (Below w5.heap.size w5 wr)) (fun _ s11 _=>nT - (intOf s11).toNat)
 case atStart=>exact ⟨0,by omega,rfl,rfl,Below.refl _ _⟩
 case round =>
  obtain ⟨i,hi,rfl,rfl,hbr⟩:=hrel
  clear x0 x1 x2 xl
  obtain ⟨x0,x1,x2,xl⟩:=c3_of (keepq hbr.out Q5.out)
  by_cases hlt:i<nT
  ·have hlt9:=hlt
   have hii:(i:Int)<(nT:Int):=by omega
   have hdi:decide (i<nT)=true:=decide_eq_true hlt
   obtain ⟨b1,off1,rfl,hbl1,hc1⟩:=(HTT.out.mono (keep_trans HB5.out hbr.out)).2 i hlt
   obtain ⟨h1,h2⟩:=HIN.out i hlt
   generalize ts[i]?.getD 0=y at hc1 h1 h2
   have dy1:decide (y<0)=false:=decide_eq_false (by omega)
   have dy2:decide (r≤y)=false:=decide_eq_false (by omega)
   go_wp2_with fail
   refine wp_region_S (fun w'=>∃u,w'=over (wr) u) [] [(0,0),(0,1),(0,2),(0,3),(0,4),(0,5),(0,6),(0,7),(0,8),(0,9),(0,10),(0,11),(0,12),(0,13)] (by kernel_rfl) (by kernel_rfl) (by exact ⟨_,below_over (by repeat (first|assumption|exact Below.refl _ _|refine keep_drew ?_|refine keep_alloc ?_ _|refine keep_trans ?_ (by assumption)))⟩) ?_
   dsimp only[pickOps,nthOp]
   repeat (first|(refine wpS_skip rfl (fun K hK=>?_);go_big_quiet_op;refine hK _ ?_;clear hK K)|(refine wpS_quiet rfl rfl (fun K hK=>?_);go_big_quiet_op;refine hK _ ?_;clear hK K))
   refine wpS_end ?_
   go_wp2_with fail
   go_roundw
   case rel=>exact ⟨i+1,by omega,by go_num,rfl,hbr.out.drew⟩
   case measure=>simp[intOf];omega
  ·have hdi:decide (i<nT)=false:=decide_eq_false hlt
   have hii:¬(i:Int)<(nT:Int):=by omega
   go_upto_region 21 with (first|(go_at_call 68;(with_reducible refine (HT.out _ (keep_trans HB5.out hbr.out)).mono ?_);rintro _ w7 ⟨rfl,hb7⟩;obtain ⟨x70,x71,x72,x7l⟩:=c3_of (keepq (keep_trans hbr.out hb7) Q5.out))|(go_at_call 69;(with_reducible refine (HR.out _ (keep_trans (keep_trans HB5.out hbr.out) (by (repeat (first|assumption|exact Below.refl _ _|refine keep_drew ?_|refine keep_alloc ?_ _|refine keep_trans ?_ (by assumption)))))).mono ?_);rintro _ w8 ⟨a8,c8,rfl,hr8,hb8⟩)|fail)
   have hB8:Below wr.heap.size wr w8:=by (repeat (first|assumption|exact Below.refl _ _|refine keep_drew ?_|refine keep_alloc ?_ _|refine keep_trans ?_ (by assumption)))
   have HR8:=Lib.hid hr8
   have HBB:=Lib.hid (keep_trans hbr.out hB8)
   have HLS:=Lib.hid (fun W (hb:Below w8.heap.size w8 W)=>llists_t a9 m c9 TT a8 c8 W (HR9.out.mono (keep_trans HBB.out hb)) (HR8.out.mono hb))
   go_wp2_with (first|(go_at_call 70;(with_reducible refine (HLS.out _ (Below.refl _ _)).mono ?_);rintro _ w9 ⟨rfl,hb9⟩)|(go_at_call 20;refine (awake4_c _).mono ?_;rintro _ wz ⟨rfl,hbz⟩)|fail)
   refine bodyPost_ret (v := .bool true) ?_ rfl ⟨rfl,keep_trans (keep_trans HB5.out HBB.out) (show Below w8.heap.size w8 wz by (repeat (first|assumption|exact Below.refl _ _|refine keep_drew ?_|refine keep_alloc ?_ _|refine keep_trans ?_ (by assumption))))⟩
   simp[results,Tryz.f12,go_sem]
theorem ltrv_0b (r C:Int) (a:Option Addr) (n c:Nat) (aT:Option Addr) (nT cT:Nat) (w:World) (h300:¬300<n) (h40:¬40<nT) (h36:36<n) (hr:¬r≤7) (hnr:((nT:Int) != r)=false) (ts:List Int) (hT:IC w aT nT ts) (hin:∀j,j<nT→0≤ts[j]?.getD 0∧ts[j]?.getD 0<r) (B:Bool) (h7:7<r)
  (HI:∀W,Below w.heap.size w W→Calls Tryz.prog 66 #[.agg #[.int .i64 r,.int .i64 C,.slice a n c],.slice aT nT cT] W fun e w'=>e = .returned (.tuple #[.bool B,.int .i64 0])∧Below W.heap.size W w')
  (HV:∀W,Below w.heap.size w W→Calls Tryz.prog 67 #[.agg #[.int .i64 r,.int .i64 C,.slice a n c]] W fun e w'=>∃a9 c9,e = .returned (.tuple #[.slice a9 0 c9,.int .i64 20])∧RC w' a9 0 []∧Below W.heap.size W w')
  (HA:∀W,Below w.heap.size w W→Calls Tryz.prog 22 #[.agg #[.int .i64 r,.int .i64 C,.slice a n c]] W fun e w'=>e = .returned (.int .i64 0)∧Below W.heap.size W w')
  (HT:∀W,Below w.heap.size w W→Calls Tryz.prog 68 #[.agg #[.int .i64 r,.int .i64 C,.slice a n c],.slice aT nT cT] W fun e w'=>e = .returned (.bool B)∧Below W.heap.size W w')
  : Calls Tryz.prog 12 #[.agg #[.int .i64 r,.int .i64 C,.slice a n c],.slice aT nT cT] w fun e w'=>e = .returned (.bool true)∧Below w.heap.size w w':=by
 have hg300:decide ((300:Int)<(n:Int))=false:=decide_eq_false (by omega)
 have ht40:decide ((40:Int)<(nT:Int))=false:=decide_eq_false (by omega)
 have hg36:decide ((36:Int)<(n:Int))=true:=decide_eq_true (by omega)
 have hr7:decide (r≤7)=false:=decide_eq_false hr
 have hb7:decide (7<r)=true:=decide_eq_true (by omega)
 have HI:=Lib.hid HI
 have HV:=Lib.hid HV
 have HA:=Lib.hid HA
 have HT:=Lib.hid HT
 have hBB:(B != B)=false:=by cases B <;> rfl
 have HTT:=Lib.hid hT
 have hsT:=hT.small
 have HIN:=Lib.hid hin
 clear hT hin
 go_enter Tryz.func12,Tryz.ntmps12
 go_upto_region 1 with fail
 have fsz:(w.alloc (.cells #[.int .i64 r,.int .i64 C,.slice a n c] 24)).heap.size=w.heap.size+1:=by simp only[World.size_alloc]
 have fB:Below w.heap.size w (w.alloc (.cells #[.int .i64 r,.int .i64 C,.slice a n c] 24)):=(Below.refl _ _).alloc (Nat.le_refl _) _
 have fq0:(w.alloc (.cells #[.int .i64 r,.int .i64 C,.slice a n c] 24)).heap[w.heap.size]?=some (.cells #[.int .i64 r,.int .i64 C,.slice a n c] 24 (0,0)):=by have h:=World.alloc_heap_new w (.cells #[.int .i64 r,.int .i64 C,.slice a n c] 24);exact h
 generalize (w.alloc (.cells #[.int .i64 r,.int .i64 C,.slice a n c] 24))=W0 at fsz fB fq0 ⊢
 have Q0:=Lib.hid fq0
 have FB:=Lib.hid fB
 obtain ⟨x0,x1,x2,xl⟩:=c3_of fq0
 clear fq0 fsz fB
 go_upto_region 9 with (first|(go_at_call 19;(with_reducible refine (lgreat_c r C a n c 36 _).mono ?_);rintro _ w1 ⟨rfl,hbw1⟩;have hkw1:Below W0.heap.size W0 w1:=(by (repeat (first|assumption|exact Below.refl _ _|refine keep_drew ?_|refine keep_alloc ?_ _|refine keep_trans ?_ (by assumption))));obtain ⟨xw10,xw11,xw12,xw1l⟩:=c3_of (keepq hkw1 Q0.out))|(go_at_call 19;(with_reducible refine (lgreat_c r C a n c 300 _).mono ?_);rintro _ w2 ⟨rfl,hbw2⟩;have hkw2:Below W0.heap.size W0 w2:=(by (repeat (first|assumption|exact Below.refl _ _|refine keep_drew ?_|refine keep_alloc ?_ _|refine keep_trans ?_ (by assumption))));obtain ⟨xw20,xw21,xw22,xw2l⟩:=c3_of (keepq hkw2 Q0.out))|(go_at_call 66;(with_reducible refine (HI.out _ (keep_trans FB.out (by (repeat (first|assumption|exact Below.refl _ _|refine keep_drew ?_|refine keep_alloc ?_ _|refine keep_trans ?_ (by assumption)))))).mono ?_);rintro _ w3 ⟨rfl,hbw3⟩;have hkw3:Below W0.heap.size W0 w3:=(by (repeat (first|assumption|exact Below.refl _ _|refine keep_drew ?_|refine keep_alloc ?_ _|refine keep_trans ?_ (by assumption))));obtain ⟨xw30,xw31,xw32,xw3l⟩:=c3_of (keepq hkw3 Q0.out))|(go_at_call 67;(with_reducible refine (HV.out _ (keep_trans FB.out (by (repeat (first|assumption|exact Below.refl _ _|refine keep_drew ?_|refine keep_alloc ?_ _|refine keep_trans ?_ (by assumption)))))).mono ?_);rintro _ w4 ⟨a9,c9,rfl,hr9,hbw4⟩;have hkw4:Below W0.heap.size W0 w4:=(by (repeat (first|assumption|exact Below.refl _ _|refine keep_drew ?_|refine keep_alloc ?_ _|refine keep_trans ?_ (by assumption))));obtain ⟨xw40,xw41,xw42,xw4l⟩:=c3_of (keepq hkw4 Q0.out))|(go_at_call 22;(with_reducible refine (HA.out _ (keep_trans FB.out (by (repeat (first|assumption|exact Below.refl _ _|refine keep_drew ?_|refine keep_alloc ?_ _|refine keep_trans ?_ (by assumption)))))).mono ?_);rintro _ w5 ⟨rfl,hbw5⟩;have hkw5:Below W0.heap.size W0 w5:=(by (repeat (first|assumption|exact Below.refl _ _|refine keep_drew ?_|refine keep_alloc ?_ _|refine keep_trans ?_ (by assumption))));obtain ⟨xw50,xw51,xw52,xw5l⟩:=c3_of (keepq hkw5 Q0.out))|fail)
 have hB5:Below W0.heap.size W0 w5:=by (repeat (first|assumption|exact Below.refl _ _|refine keep_drew ?_|refine keep_alloc ?_ _|refine keep_trans ?_ (by assumption)))
 have HB5:=Lib.hid (keep_trans FB.out hB5)
 have Q5:=Lib.hid (keepq hB5 Q0.out)
 have HR9:=Lib.hid (hr9.mono hbw5)
 clear hB5 hr9
 clear x0 x1 x2 xl xw10 xw11 xw12 xw1l hkw1 hbw1 xw20 xw21 xw22 xw2l hkw2 hbw2 xw30 xw31 xw32 xw3l hkw3 hbw3 xw40 xw41 xw42 xw4l hkw4 hbw4 xw50 xw51 xw52 xw5l hkw5 hbw5
 obtain ⟨x0,x1,x2,xl⟩:=c3_of Q5.out
 go_wp2_with fail
 go_loopw [10,11] (fun s10 s11 wr=>∃i:Nat,i≤nT∧s11 = .int .i64 (i:Int)∧s10 = .int .i64 0∧Hid (Below w5.heap.size w5 wr)) (fun _ s11 _=>nT - (intOf s11).toNat)
 case atStart=>exact ⟨0,by omega,rfl,rfl,Below.refl _ _⟩
 case round =>
  obtain ⟨i,hi,rfl,rfl,hbr⟩:=hrel
  clear x0 x1 x2 xl
  obtain ⟨x0,x1,x2,xl⟩:=c3_of (keepq hbr.out Q5.out)
  by_cases hlt:i<nT
  ·have hlt9:=hlt
   have hii:(i:Int)<(nT:Int):=by omega
   have hdi:decide (i<nT)=true:=decide_eq_true hlt
   obtain ⟨b1,off1,rfl,hbl1,hc1⟩:=(HTT.out.mono (keep_trans HB5.out hbr.out)).2 i hlt
   obtain ⟨h1,h2⟩:=HIN.out i hlt
   generalize ts[i]?.getD 0=y at hc1 h1 h2
   have dy1:decide (y<0)=false:=decide_eq_false (by omega)
   have dy2:decide (r≤y)=false:=decide_eq_false (by omega)
   go_wp2_with fail
   refine wp_region_S (fun w'=>∃u,w'=over (wr) u) [] [(0,0),(0,1),(0,2),(0,3),(0,4),(0,5),(0,6),(0,7),(0,8),(0,9),(0,10),(0,11),(0,12),(0,13)] (by kernel_rfl) (by kernel_rfl) (by exact ⟨_,below_over (by repeat (first|assumption|exact Below.refl _ _|refine keep_drew ?_|refine keep_alloc ?_ _|refine keep_trans ?_ (by assumption)))⟩) ?_
   dsimp only[pickOps,nthOp]
   repeat (first|(refine wpS_skip rfl (fun K hK=>?_);go_big_quiet_op;refine hK _ ?_;clear hK K)|(refine wpS_quiet rfl rfl (fun K hK=>?_);go_big_quiet_op;refine hK _ ?_;clear hK K))
   refine wpS_end ?_
   go_wp2_with fail
   go_roundw
   case rel=>exact ⟨i+1,by omega,by go_num,rfl,hbr.out.drew⟩
   case measure=>simp[intOf];omega
  ·have hdi:decide (i<nT)=false:=decide_eq_false hlt
   have hii:¬(i:Int)<(nT:Int):=by omega
   have HLS:=Lib.hid (fun W (hb:Below w5.heap.size w5 W)=>llists_t a9 0 c9 [] none 0 W (HR9.out.mono hb) ⟨⟨rfl,by omega⟩,fun k hk=>absurd hk (by omega)⟩)
   go_wp2_with (first|(go_at_call 68;(with_reducible refine (HT.out _ (keep_trans HB5.out hbr.out)).mono ?_);rintro _ w7 ⟨rfl,hb7⟩;obtain ⟨x70,x71,x72,x7l⟩:=c3_of (keepq (keep_trans hbr.out hb7) Q5.out))|(go_at_call 70;(with_reducible refine (HLS.out _ (keep_trans hbr.out (by (repeat (first|assumption|exact Below.refl _ _|refine keep_drew ?_|refine keep_alloc ?_ _|refine keep_trans ?_ (by assumption)))))).mono ?_);rintro _ w9 ⟨rfl,hb9⟩)|(go_at_call 20;refine (awake4_c _).mono ?_;rintro _ wz ⟨rfl,hbz⟩)|fail)
   refine bodyPost_ret (v := .bool true) ?_ rfl ⟨rfl,keep_trans (keep_trans HB5.out hbr.out) (show Below wr.heap.size wr wz by (repeat (first|assumption|exact Below.refl _ _|refine keep_drew ?_|refine keep_alloc ?_ _|refine keep_trans ?_ (by assumption))))⟩
   simp[results,Tryz.f12,go_sem]
theorem least_of {p:Nat→Prop} [DecidablePred p]:∀{n:Nat},(∃i,i<n∧p i)→∃i,i<n∧p i∧∀j,j<i→¬p j
 | 0,h=>by obtain ⟨i,hi,_⟩:=h;omega
 | n+1,h=>by
  by_cases h2:∃i,i<n∧p i
  ·obtain ⟨i,h3,h4,h5⟩:=least_of h2
   exact ⟨i,by omega,h4,h5⟩
  ·obtain ⟨i,hi,hp⟩:=h
   have e:i=n:=by
    rcases Nat.lt_or_ge i n with e|e
    ·exact (h2 ⟨i,e,hp⟩).elim
    ·omega
   subst e
   exact ⟨i,by omega,hp,fun j hj hpj=>h2 ⟨j,hj,hpj⟩⟩
theorem ltransversals_c (r C:Int) (a:Option Addr) (n c:Nat) (cs:List Int) (aT:Option Addr) (nT cT:Nat) (ts:List Int) (w:World) (h:IC w a n cs) (_hc:n≤c) (hT:IC w aT nT ts) (_hcT:nT≤cT):Calls Tryz.prog 12 #[.agg #[.int .i64 r,.int .i64 C,.slice a n c],.slice aT nT cT] w fun e w'=>e = .returned (.bool true)∧Below w.heap.size w w':=by
 by_cases g1:36<n∧r≤7
 ·exact ltrv_p1 r C a n c aT nT cT w g1.1 g1.2
 by_cases g2:300<n
 ·exact ltrv_p2 r C a n c aT nT cT w g2 (fun e=>g1 ⟨by omega,e⟩)
 by_cases g3:40<nT
 ·by_cases g4:36<n
  ·exact ltrv_p4 r C a n c aT nT cT w g4 g2 (fun e=>g1 ⟨g4,e⟩) g3
  ·exact ltrv_p3 r C a n c aT nT cT w g4 g3
 have HI:=fun W (hb:Below w.heap.size w W)=>isT_c r C a n c cs aT nT cT ts W (h.mono hb) (hT.mono hb)
 have HV:=fun W (hb:Below w.heap.size w W)=>transv_c r C a n c cs W (h.mono hb)
 have HA:=fun W (hb:Below w.heap.size w W)=>rcheck_c r C a n c cs W (h.mono hb)
 have htl:=hT.len
 by_cases h0:sqE 0 r C cs=0
 ·rw[h0] at HA
  obtain ⟨N,rfl,rfl,L⟩:=sqE_ok h0
  have hN1:=L.pos
  have hN2:=L.le
  have hn:n=N*N:=by rw[← h.len];exact L.len
  have hF:isTF (N:Int) (N:Int) cs ts=whenV ((nT:Int) != (N:Int)) 2:=by
   unfold isTF
   rw[h0,firstL_z,htl]
   cases ((nT:Int) != (N:Int)) <;> rfl
  -- the search
  by_cases h7:(7:Int)<(N:Int)
  ·have g36:36<n:=by
    have:=Nat.mul_le_mul (show 8≤N by omega) (show 8≤N by omega)
    omega
   have hE:trE (N:Int) (N:Int) cs=20:=by unfold trE;rw[h0,decide_eq_true h7];rfl
   have hL:trL (N:Int) (N:Int) cs=[]:=by unfold trL;rw[hE];rfl
   rw[hE,hL] at HV
   have hr7:¬(N:Int)≤7:=by omega
   by_cases hnr:(nT:Int)=(N:Int)
   ·have hb:((nT:Int) != (N:Int))=false:=by simpa using hnr
    rw[hb,show whenV false 2=0 from rfl] at hF
    by_cases hx:∃i,i<nT∧outP (N:Int) ts i=true
    ·obtain ⟨i0,k1,k2,k3⟩:=least_of hx
     have hE1:isTE (N:Int) (N:Int) cs ts=3:=by
      unfold isTE
      rw[if_pos hF,if_pos]
      unfold anyP
      rw[List.any_eq_true]
      exact ⟨i0,List.mem_range.2 (by omega),k2⟩
     have hB1:isTB (N:Int) (N:Int) cs ts=false:=by unfold isTB;rw[hE1];rfl
     rw[hE1,hB1] at HI
     have hz:∀i,outP (N:Int) ts i=true↔(ts[i]?.getD 0<0∨(N:Int)≤ts[i]?.getD 0):=fun i=>by unfold outP;simp
     exact ltrv_3b (N:Int) (N:Int) a n c aT nT cT w g2 g3 g36 hr7 hb ts hT i0 k1 (fun j hj=>by have:=k3 j hj;rw[hz] at this;omega) ((hz i0).1 k2) h7 HI HV HA
    ·have hz:∀i,i<nT→0≤ts[i]?.getD 0∧ts[i]?.getD 0<(N:Int):=fun i hi=>by
      have h1:¬outP (N:Int) ts i=true:=fun e=>hx ⟨i,hi,e⟩
      unfold outP at h1
      simp only[Bool.or_eq_true,decide_eq_true_eq] at h1
      omega
     have hin:∀y,y∈ts→0≤y∧y<(N:Int):=fun y hy=>by
      obtain ⟨i,hi,rfl⟩:=List.getElem_of_mem hy
      have:=hz i (by omega)
      rw[List.getElem?_eq_getElem hi,Option.getD_some] at this
      exact this
     have hE1:isTE (N:Int) (N:Int) cs ts=0:=by
      unfold isTE
      rw[if_pos hF,if_neg]
      unfold anyP
      rw[Bool.not_eq_true,List.any_eq_false]
      exact fun k hk e=>hx ⟨k,by rw[← htl];exact List.mem_range.1 hk,e⟩
     have hB1:isTB (N:Int) (N:Int) cs ts=transB N cs ts:=by unfold isTB;rw[hE1,Int.toNat_natCast];simp
     rw[hE1,hB1] at HI
     exact ltrv_0b (N:Int) (N:Int) a n c aT nT cT w g2 g3 g36 hr7 hb ts hT hz _ h7 HI HV HA (fun W hb=>rist_c N n a c cs aT nT cT ts W (h.mono hb) (hT.mono hb) hn hN1 hN2 (by omega) hin)
   ·have hb:((nT:Int) != (N:Int))=true:=by simpa using hnr
    rw[hb,show whenV true 2=2 from rfl] at hF
    have hE1:isTE (N:Int) (N:Int) cs ts=2:=by unfold isTE;rw[hF];rfl
    have hB1:isTB (N:Int) (N:Int) cs ts=false:=by unfold isTB;rw[hE1];rfl
    rw[hE1,hB1] at HI
    exact ltrv_2b (N:Int) (N:Int) a n c aT nT cT w g2 g3 g36 hr7 hb h7 HI HV HA
  ·have g36:¬36<n:=fun e=>g1 ⟨e,by omega⟩
   have hE:=(trE_zero L (by omega)).1
   have hL:=(trE_zero L (by omega)).2
   rw[hE,hL] at HV
   have HR:=fun W (hb:Below w.heap.size w W)=>rTransv_c N n a c cs W (h.mono hb) hN1 (by omega) hn
   by_cases hnr:(nT:Int)=(N:Int)
   ·have hb:((nT:Int) != (N:Int))=false:=by simpa using hnr
    rw[hb,show whenV false 2=0 from rfl] at hF
    by_cases hx:∃i,i<nT∧outP (N:Int) ts i=true
    ·obtain ⟨i0,k1,k2,k3⟩:=least_of hx
     have hE1:isTE (N:Int) (N:Int) cs ts=3:=by
      unfold isTE
      rw[if_pos hF,if_pos]
      unfold anyP
      rw[List.any_eq_true]
      exact ⟨i0,List.mem_range.2 (by omega),k2⟩
     have hB1:isTB (N:Int) (N:Int) cs ts=false:=by unfold isTB;rw[hE1];rfl
     rw[hE1,hB1] at HI
     have hz:∀i,outP (N:Int) ts i=true↔(ts[i]?.getD 0<0∨(N:Int)≤ts[i]?.getD 0):=fun i=>by unfold outP;simp
     exact ltrv_3s (N:Int) (N:Int) a n c aT nT cT w g2 g3 g36 hb ts hT i0 k1 (fun j hj=>by have:=k3 j hj;rw[hz] at this;omega) ((hz i0).1 k2) h7 _ _ HI HV HA HR
    ·have hz:∀i,i<nT→0≤ts[i]?.getD 0∧ts[i]?.getD 0<(N:Int):=fun i hi=>by
      have h1:¬outP (N:Int) ts i=true:=fun e=>hx ⟨i,hi,e⟩
      unfold outP at h1
      simp only[Bool.or_eq_true,decide_eq_true_eq] at h1
      omega
     have hin:∀y,y∈ts→0≤y∧y<(N:Int):=fun y hy=>by
      obtain ⟨i,hi,rfl⟩:=List.getElem_of_mem hy
      have:=hz i (by omega)
      rw[List.getElem?_eq_getElem hi,Option.getD_some] at this
      exact this
     have hE1:isTE (N:Int) (N:Int) cs ts=0:=by
      unfold isTE
      rw[if_pos hF,if_neg]
      unfold anyP
      rw[Bool.not_eq_true,List.any_eq_false]
      exact fun k hk e=>hx ⟨k,by rw[← htl];exact List.mem_range.1 hk,e⟩
     have hB1:isTB (N:Int) (N:Int) cs ts=transB N cs ts:=by unfold isTB;rw[hE1,Int.toNat_natCast];simp
     rw[hE1,hB1] at HI
     exact ltrv_0s (N:Int) (N:Int) a n c aT nT cT w g2 g3 g36 hb ts hT hz _ h7 _ _ HI HV HA (fun W hb=>rist_c N n a c cs aT nT cT ts W (h.mono hb) (hT.mono hb) hn hN1 hN2 (by omega) hin) HR
   ·have hb:((nT:Int) != (N:Int))=true:=by simpa using hnr
    rw[hb,show whenV true 2=2 from rfl] at hF
    have hE1:isTE (N:Int) (N:Int) cs ts=2:=by unfold isTE;rw[hF];rfl
    have hB1:isTB (N:Int) (N:Int) cs ts=false:=by unfold isTB;rw[hE1];rfl
    rw[hE1,hB1] at HI
    exact ltrv_2s (N:Int) (N:Int) a n c aT nT cT w g2 g3 g36 hb h7 _ _ HI HV HA HR
 ·have hF:isTF r C cs ts=sqE 0 r C cs:=by unfold isTF;exact firstL_ne h0
  have hE1:isTE r C cs ts=sqE 0 r C cs:=by unfold isTE;rw[hF,if_neg h0]
  have hB1:isTB r C cs ts=false:=by unfold isTB;rw[hE1,decide_eq_false h0];rfl
  have hE:trE r C cs=sqE 0 r C cs:=by unfold trE;exact firstL_ne h0
  have hL:trL r C cs=[]:=by unfold trL;rw[hE,if_neg h0]
  rw[hE1,hB1] at HI
  rw[hE,hL] at HV
  by_cases g36:36<n
  ·exact ltrv_a2 r C a n c aT nT cT w g2 g3 g36 (fun e=>g1 ⟨g36,e⟩) _ h0 HI HV HA
  ·exact ltrv_a1 r C a n c aT nT cT w g2 g3 g36 _ h0 HI HV HA
end
end Go.Proofs.YtmfpdakaeagdpaaGreat
