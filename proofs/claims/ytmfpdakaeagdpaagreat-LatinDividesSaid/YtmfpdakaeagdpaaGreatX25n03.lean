/- Texts J136 to J136 of this proof, in one file. -/
import Derived.Test.YtmfpdakaeagdpaaGreatW01
import Derived.Test.YtmfpdakaeagdpaaGreatW02
import Derived.Test.YtmfpdakaeagdpaaGreatW03
import Derived.Test.YtmfpdakaeagdpaaGreatW04
import Derived.Test.YtmfpdakaeagdpaaGreatW05
import Derived.Test.YtmfpdakaeagdpaaGreatW06
import Derived.Test.YtmfpdakaeagdpaaGreatW07
import Derived.Test.YtmfpdakaeagdpaaGreatW08
import Derived.Test.YtmfpdakaeagdpaaGreatW09
import Derived.Test.YtmfpdakaeagdpaaGreatW10
import Derived.Test.YtmfpdakaeagdpaaGreatW11
import Derived.Test.YtmfpdakaeagdpaaGreatW12
import Derived.Test.YtmfpdakaeagdpaaGreatW13
import Derived.Test.YtmfpdakaeagdpaaGreatW14
import Derived.Test.YtmfpdakaeagdpaaGreatW15
import Derived.Test.YtmfpdakaeagdpaaGreatW16
import Derived.Test.YtmfpdakaeagdpaaGreatW17
import Derived.Test.YtmfpdakaeagdpaaGreatW18
import Derived.Test.YtmfpdakaeagdpaaGreatW19
import Derived.Test.YtmfpdakaeagdpaaGreatW20
import Derived.Test.YtmfpdakaeagdpaaGreatW21
import Derived.Test.YtmfpdakaeagdpaaGreatW22
import Derived.Test.YtmfpdakaeagdpaaGreatW23
import Derived.Test.YtmfpdakaeagdpaaGreatW24
import Derived.Test.YtmfpdakaeagdpaaGreatW25
import Derived.Test.YtmfpdakaeagdpaaGreatW26
import Derived.Test.YtmfpdakaeagdpaaGreatW27
import Derived.Test.YtmfpdakaeagdpaaGreatX25n01
import Derived.Test.YtmfpdakaeagdpaaGreatX25n02
import Derived.Below
import Derived.BigFrame
import Derived.BigQuiet
import Derived.Deep.CutBlock
import Derived.Deep.CutRange
import Derived.Deep.LoopGhost
import Derived.Deep.Quiet
import Derived.Deep.RegionHeld3
import Derived.DeepKeys4
import Derived.KernelRfl
import Derived.Laws.BitsAllLaws
import Derived.Laws.EntriesVeiled
import Derived.Lib.AppendZeros
import Derived.Lib.Hide
import Derived.Lib.SlKeysI
import Derived.Lib.SliceRun
import Derived.LoopIn
import Derived.LoopNIn
import Derived.Maps.AppendAt
import Derived.Maps.OwnIn
import Derived.Maps.OwnSet
import Derived.OneCell
import Derived.OrdersHeld
import Derived.OrdersIn
import Derived.OwnWalkIn
import Derived.RangeFuncBound
import Derived.RangeFuncBox
import Derived.RangeFuncCalls
import Derived.RangeFuncLeaves
import Derived.RangeFuncNested
import Derived.RangeFuncWrites
import Derived.Shelf.Abstract
import Derived.Shelf.SortM.Plain
import Derived.Still
import Derived.TacticsIn
import Derived.TacticsInMore
import Derived.Test.YtmfpdakaeagdpaaGreatProg
import Derived.WalkKit
import Derived.WalkLawsBesides
import Derived.WalkSpells
import Derived.WideKeyPair
namespace Go.Proofs.YtmfpdakaeagdpaaGreat
set_option maxRecDepth 100000
set_option maxHeartbeats 16000000
section
open Go Go.RowKit
attribute [local go_sem] over_cell
attribute [local go_sem] Oper.semAt_some
theorem lcount_c (r C:Int) (a:Option Addr) (n c:Nat) (cs:List Int) (w:World) (h:IC w a n cs) :
  Calls Tryz.prog 82 #[.agg #[.int .i64 r,.int .i64 C,.slice a n c]] w fun e w'=>e = .returned (.tuple #[.int .i64 ((trL r C cs).length:Int),.bool (trE r C cs==0)])∧Below w.heap.size w w':=by
 have HT:=Lib.hid (fun W (hb:Below w.heap.size w W)=>transv_c r C a n c cs W (h.mono hb))
 generalize (trL r C cs).length=m at HT ⊢
 generalize trL r C cs=T at HT
 generalize trE r C cs=er at HT ⊢
 clear h
 go_enter Tryz.func82,Tryz.ntmps82
 go_upto_region 1 with fail
 have fB:Below w.heap.size w (w.alloc (.cells #[.int .i64 r,.int .i64 C,.slice a n c] 24)):=(Below.refl _ _).alloc (Nat.le_refl _) _
 have FQ:Hid ((w.alloc (.cells #[.int .i64 r,.int .i64 C,.slice a n c] 24)).heap[w.heap.size]?=some (.cells #[.int .i64 r,.int .i64 C,.slice a n c] 24 (0,0))):=World.alloc_heap_new _ _
 generalize (w.alloc (.cells #[.int .i64 r,.int .i64 C,.slice a n c] 24))=W0 at fB FQ ⊢
 obtain ⟨x0,x1,x2,xl⟩:=c3_of FQ.out
 have FB:=Lib.hid fB
 clear fB
 go_wp2_with (first|(go_at_call 67;(with_reducible refine (HT.out _ FB.out).mono ?_);rintro _ w5 ⟨a9,c9,rfl,_,hb5⟩)|fail)
 refine bodyPost_ret (v := .tuple #[.int .i64 (m:Int),.bool (er==0)]) ?_ rfl ⟨rfl,keep_trans FB.out hb5⟩
 simp[results,Tryz.f82,go_sem]
theorem made_zeroC (n:Nat):(madeCells (Value.int .i64 0).cells (n*1)).toList=(List.replicate n (0:Int)).map (Value.int .i64):=made_zeroR n
theorem ldiv_g (r C:Int) (a:Option Addr) (n c:Nat) (w:World) (hg:25<n):Calls Tryz.prog 16 #[.agg #[.int .i64 r,.int .i64 C,.slice a n c]] w fun e w'=>e = .returned (.bool true)∧Below w.heap.size w w':=by
 have hgI:decide ((25:Int)<(n:Int))=true:=decide_eq_true (by omega)
 go_enter Tryz.func16,Tryz.ntmps16
 go_upto_region 1 with fail
 have fsz:(w.alloc (.cells #[.int .i64 r,.int .i64 C,.slice a n c] 24)).heap.size=w.heap.size+1:=by simp only[World.size_alloc]
 have fB:Below w.heap.size w (w.alloc (.cells #[.int .i64 r,.int .i64 C,.slice a n c] 24)):=(Below.refl _ _).alloc (Nat.le_refl _) _
 have fq0:(w.alloc (.cells #[.int .i64 r,.int .i64 C,.slice a n c] 24)).heap[w.heap.size]?=some (.cells #[.int .i64 r,.int .i64 C,.slice a n c] 24 (0,0)):=by have h:=World.alloc_heap_new w (.cells #[.int .i64 r,.int .i64 C,.slice a n c] 24);exact h
 generalize (w.alloc (.cells #[.int .i64 r,.int .i64 C,.slice a n c] 24))=W0 at fsz fB fq0 ⊢
 have Q0:=Lib.hid fq0
 have FB:=Lib.hid fB
 obtain ⟨x0,x1,x2,xl⟩:=c3_of fq0
 clear fq0 fsz fB
 go_wp2_with (first|(go_at_call 19;refine (lgreat_c _ _ _ _ _ 25 _).mono ?_;rintro _ w1 ⟨rfl,hbw1⟩;have hkw1:Below W0.heap.size W0 w1:=(by (repeat (first|assumption|exact Below.refl _ _|refine keep_drew ?_|refine keep_alloc ?_ _|refine keep_trans ?_ (by assumption))));obtain ⟨xw10,xw11,xw12,xw1l⟩:=c3_of (keepq hkw1 Q0.out))|(go_at_call 20;refine (awake4_c _).mono ?_;rintro _ wz ⟨rfl,hbz⟩)|fail)
 refine bodyPost_ret (v := .bool true) ?_ rfl ⟨rfl,keep_trans FB.out (show Below W0.heap.size W0 wz by (repeat (first|assumption|exact Below.refl _ _|refine keep_drew ?_|refine keep_alloc ?_ _|refine keep_trans ?_ (by assumption))))⟩
 simp[results,Tryz.f16,go_sem]
theorem ldiv_a (r C:Int) (a:Option Addr) (n c:Nat) (w:World) (hg0:¬25<n) (ea:Int) (h0:ea≠0)
  (HA:∀W,Below w.heap.size w W→Calls Tryz.prog 22 #[.agg #[.int .i64 r,.int .i64 C,.slice a n c]] W fun e w'=>e = .returned (.int .i64 ea)∧Below W.heap.size W w'):Calls Tryz.prog 16 #[.agg #[.int .i64 r,.int .i64 C,.slice a n c]] w fun e w'=>e = .returned (.bool true)∧Below w.heap.size w w':=by
 have hgI0:decide ((25:Int)<(n:Int))=false:=decide_eq_false (by omega)
 have HA:=Lib.hid HA
 have e1:(ea != 0)=true:=by simpa using h0
 clear h0
 go_enter Tryz.func16,Tryz.ntmps16
 go_upto_region 1 with fail
 have fsz:(w.alloc (.cells #[.int .i64 r,.int .i64 C,.slice a n c] 24)).heap.size=w.heap.size+1:=by simp only[World.size_alloc]
 have fB:Below w.heap.size w (w.alloc (.cells #[.int .i64 r,.int .i64 C,.slice a n c] 24)):=(Below.refl _ _).alloc (Nat.le_refl _) _
 have fq0:(w.alloc (.cells #[.int .i64 r,.int .i64 C,.slice a n c] 24)).heap[w.heap.size]?=some (.cells #[.int .i64 r,.int .i64 C,.slice a n c] 24 (0,0)):=by have h:=World.alloc_heap_new w (.cells #[.int .i64 r,.int .i64 C,.slice a n c] 24);exact h
 generalize (w.alloc (.cells #[.int .i64 r,.int .i64 C,.slice a n c] 24))=W0 at fsz fB fq0 ⊢
 have Q0:=Lib.hid fq0
 have FB:=Lib.hid fB
 obtain ⟨x0,x1,x2,xl⟩:=c3_of fq0
 clear fq0 fsz fB
 go_wp2_with (first|(go_at_call 19;(with_reducible refine (lgreat_c r C a n c 25 _).mono ?_);rintro _ w1 ⟨rfl,hbw1⟩;have hkw1:Below W0.heap.size W0 w1:=(by (repeat (first|assumption|exact Below.refl _ _|refine keep_drew ?_|refine keep_alloc ?_ _|refine keep_trans ?_ (by assumption))));obtain ⟨xw10,xw11,xw12,xw1l⟩:=c3_of (keepq hkw1 Q0.out))|(go_at_call 22;(with_reducible refine (HA.out _ (keep_trans FB.out (by (repeat (first|assumption|exact Below.refl _ _|refine keep_drew ?_|refine keep_alloc ?_ _|refine keep_trans ?_ (by assumption)))))).mono ?_);rintro _ w2 ⟨rfl,hbw2⟩;have hkw2:Below W0.heap.size W0 w2:=(by (repeat (first|assumption|exact Below.refl _ _|refine keep_drew ?_|refine keep_alloc ?_ _|refine keep_trans ?_ (by assumption))));obtain ⟨xw20,xw21,xw22,xw2l⟩:=c3_of (keepq hkw2 Q0.out))|(go_at_call 20;refine (awake4_c _).mono ?_;rintro _ wz ⟨rfl,hbz⟩)|fail)
 refine bodyPost_ret (v := .bool true) ?_ rfl ⟨rfl,keep_trans FB.out (show Below W0.heap.size W0 wz by (repeat (first|assumption|exact Below.refl _ _|refine keep_drew ?_|refine keep_alloc ?_ _|refine keep_trans ?_ (by assumption))))⟩
 simp[results,Tryz.f16,go_sem]
theorem ldiv_b (N nn:Nat) (a:Option Addr) (c:Nat) (w:World) (hg0:¬25<nn) (d:Int)
  (HA:∀W,Below w.heap.size w W→Calls Tryz.prog 22 #[.agg #[.int .i64 (N:Int),.int .i64 (N:Int),.slice a nn c]] W fun e w'=>e = .returned (.int .i64 0)∧Below W.heap.size W w')
  (HM:∀W,Below w.heap.size w W→Calls Tryz.prog 21 #[.agg #[.int .i64 (N:Int),.int .i64 (N:Int),.slice a nn c]] W fun e w'=>∃a2 c2,e = .returned (.tuple #[.agg #[.int .i64 0,.int .i64 0,.slice a2 0 c2],.int .i64 7])∧IC w' a2 0 []∧Below W.heap.size W w')
  (HC:∀W,Below w.heap.size w W→Calls Tryz.prog 82 #[.agg #[.int .i64 (N:Int),.int .i64 (N:Int),.slice a nn c]] W fun e w'=>e = .returned (.tuple #[.int .i64 0,.bool true])∧Below W.heap.size W w')
  (HR:∀W,Below w.heap.size w W→Calls Tryz.prog 49 #[.agg #[.int .i64 (N:Int),.int .i64 (N:Int),.slice a nn c]] W fun e w'=>e = .returned (.tuple #[.int .i64 d,.int .i64 0])∧Below W.heap.size W w')
  (HK:∀W,Below w.heap.size w W→Calls Tryz.prog 50 #[.agg #[.int .i64 (N:Int),.int .i64 (N:Int),.slice a nn c],.int .i64 d] W fun e w'=>e = .returned (.int .i64 0)∧Below W.heap.size W w')
  : Calls Tryz.prog 16 #[.agg #[.int .i64 (N:Int),.int .i64 (N:Int),.slice a nn c]] w fun e w'=>e = .returned (.bool true)∧Below w.heap.size w w':=by
 have hgI0:decide ((25:Int)<(nn:Int))=false:=decide_eq_false (by omega)
 have HA:=Lib.hid HA
 have HM:=Lib.hid HM
 have HC:=Lib.hid HC
 have HR:=Lib.hid HR
 have HK:=Lib.hid HK
 go_enter Tryz.func16,Tryz.ntmps16
 go_upto_region 1 with fail
 have fsz:(w.alloc (.cells #[.int .i64 (N:Int),.int .i64 (N:Int),.slice a nn c] 24)).heap.size=w.heap.size+1:=by simp only[World.size_alloc]
 have fB:Below w.heap.size w (w.alloc (.cells #[.int .i64 (N:Int),.int .i64 (N:Int),.slice a nn c] 24)):=(Below.refl _ _).alloc (Nat.le_refl _) _
 have fq0:(w.alloc (.cells #[.int .i64 (N:Int),.int .i64 (N:Int),.slice a nn c] 24)).heap[w.heap.size]?=some (.cells #[.int .i64 (N:Int),.int .i64 (N:Int),.slice a nn c] 24 (0,0)):=by have h:=World.alloc_heap_new w (.cells #[.int .i64 (N:Int),.int .i64 (N:Int),.slice a nn c] 24);exact h
 generalize (w.alloc (.cells #[.int .i64 (N:Int),.int .i64 (N:Int),.slice a nn c] 24))=W0 at fsz fB fq0 ⊢
 have Q0:=Lib.hid fq0
 have FB:=Lib.hid fB
 obtain ⟨x0,x1,x2,xl⟩:=c3_of fq0
 clear fq0 fsz fB
 go_upto_region 5 with (first|(go_at_call 19;(with_reducible refine (lgreat_c (N:Int) (N:Int) a nn c 25 _).mono ?_);rintro _ w1 ⟨rfl,hbw1⟩;have hkw1:Below W0.heap.size W0 w1:=(by (repeat (first|assumption|exact Below.refl _ _|refine keep_drew ?_|refine keep_alloc ?_ _|refine keep_trans ?_ (by assumption))));obtain ⟨xw10,xw11,xw12,xw1l⟩:=c3_of (keepq hkw1 Q0.out))|(go_at_call 22;(with_reducible refine (HA.out _ (keep_trans FB.out (by (repeat (first|assumption|exact Below.refl _ _|refine keep_drew ?_|refine keep_alloc ?_ _|refine keep_trans ?_ (by assumption)))))).mono ?_);rintro _ w3 ⟨rfl,hbw3⟩;have hkw3:Below W0.heap.size W0 w3:=(by (repeat (first|assumption|exact Below.refl _ _|refine keep_drew ?_|refine keep_alloc ?_ _|refine keep_trans ?_ (by assumption))));obtain ⟨xw30,xw31,xw32,xw3l⟩:=c3_of (keepq hkw3 Q0.out))|(go_at_call 21;(with_reducible refine (HM.out _ (keep_trans FB.out (by (repeat (first|assumption|exact Below.refl _ _|refine keep_drew ?_|refine keep_alloc ?_ _|refine keep_trans ?_ (by assumption)))))).mono ?_);rintro _ w2 ⟨a2,c2,rfl,hi2,hbw2⟩)|fail)
 have hB2:Below W0.heap.size W0 w2:=by (repeat (first|assumption|exact Below.refl _ _|refine keep_drew ?_|refine keep_alloc ?_ _|refine keep_trans ?_ (by assumption)))
 have gsz:(w2.alloc (.cells #[.int .i64 0,.int .i64 0,.slice a2 0 c2] 24)).heap.size=w2.heap.size+1:=by simp only[World.size_alloc]
 have gB:Below w2.heap.size w2 (w2.alloc (.cells #[.int .i64 0,.int .i64 0,.slice a2 0 c2] 24)):=(Below.refl _ _).alloc (Nat.le_refl _) _
 have gq0:(w2.alloc (.cells #[.int .i64 0,.int .i64 0,.slice a2 0 c2] 24)).heap[w2.heap.size]?=some (.cells #[.int .i64 0,.int .i64 0,.slice a2 0 c2] 24 (0,0)):=by have h:=World.alloc_heap_new w2 (.cells #[.int .i64 0,.int .i64 0,.slice a2 0 c2] 24);exact h
 generalize (w2.alloc (.cells #[.int .i64 0,.int .i64 0,.slice a2 0 c2] 24))=V3 at gsz gB gq0 ⊢
 have Q3:=Lib.hid gq0
 have Q1:=Lib.hid (keepq (keep_trans hB2 gB) Q0.out)
 have HB3:=Lib.hid (keep_trans FB.out (keep_trans hB2 gB))
 have HI3:=Lib.hid (hi2.mono gB)
 clear gsz gq0 gB hB2 hi2 hbw2 x0 x1 x2 xl xw10 xw11 xw12 xw1l hkw1 hbw1 xw30 xw31 xw32 xw3l hkw3 hbw3
 obtain ⟨x0,x1,x2,xl⟩:=c3_of Q1.out
 obtain ⟨y0,y1,y2,yl⟩:=c3_of Q3.out
 go_wp2_with (first|(go_at_call 82;(with_reducible refine (HC.out _ (keep_trans HB3.out (by (repeat (first|assumption|exact Below.refl _ _|refine keep_drew ?_|refine keep_alloc ?_ _|refine keep_trans ?_ (by assumption)))))).mono ?_);rintro _ v1 ⟨rfl,hbv1⟩;have hkv1:Below V3.heap.size V3 v1:=(by (repeat (first|assumption|exact Below.refl _ _|refine keep_drew ?_|refine keep_alloc ?_ _|refine keep_trans ?_ (by assumption))));obtain ⟨xv10,xv11,xv12,xv1l⟩:=c3_of (keepq hkv1 Q1.out);obtain ⟨yv10,yv11,yv12,yv1l⟩:=c3_of (keepq hkv1 Q3.out))|(go_at_call 49;(with_reducible refine (HR.out _ (keep_trans HB3.out (by (repeat (first|assumption|exact Below.refl _ _|refine keep_drew ?_|refine keep_alloc ?_ _|refine keep_trans ?_ (by assumption)))))).mono ?_);rintro _ v2 ⟨rfl,hbv2⟩;have hkv2:Below V3.heap.size V3 v2:=(by (repeat (first|assumption|exact Below.refl _ _|refine keep_drew ?_|refine keep_alloc ?_ _|refine keep_trans ?_ (by assumption))));obtain ⟨xv20,xv21,xv22,xv2l⟩:=c3_of (keepq hkv2 Q1.out);obtain ⟨yv20,yv21,yv22,yv2l⟩:=c3_of (keepq hkv2 Q3.out))|(go_at_call 50;(with_reducible refine (HK.out _ (keep_trans HB3.out (by (repeat (first|assumption|exact Below.refl _ _|refine keep_drew ?_|refine keep_alloc ?_ _|refine keep_trans ?_ (by assumption)))))).mono ?_);rintro _ v3 ⟨rfl,hbv3⟩;have hkv3:Below V3.heap.size V3 v3:=(by (repeat (first|assumption|exact Below.refl _ _|refine keep_drew ?_|refine keep_alloc ?_ _|refine keep_trans ?_ (by assumption))));obtain ⟨xv30,xv31,xv32,xv3l⟩:=c3_of (keepq hkv3 Q1.out);obtain ⟨yv30,yv31,yv32,yv3l⟩:=c3_of (keepq hkv3 Q3.out))|(go_at_call 20;refine (awake4_c _).mono ?_;rintro _ wz ⟨rfl,hbz⟩)|fail)
 refine bodyPost_ret (v := .bool true) ?_ rfl ⟨rfl,keep_trans HB3.out (show Below V3.heap.size V3 wz by (repeat (first|assumption|exact Below.refl _ _|refine keep_drew ?_|refine keep_alloc ?_ _|refine keep_trans ?_ (by assumption))))⟩
 simp[results,Tryz.f16,go_sem]
theorem ldiv_c (N nn:Nat) (a:Option Addr) (c:Nat) (w:World) (hg0:¬25<nn) (t d:Int)
  (HA:∀W,Below w.heap.size w W→Calls Tryz.prog 22 #[.agg #[.int .i64 (N:Int),.int .i64 (N:Int),.slice a nn c]] W fun e w'=>e = .returned (.int .i64 0)∧Below W.heap.size W w')
  (HM:∀W,Below w.heap.size w W→Calls Tryz.prog 21 #[.agg #[.int .i64 (N:Int),.int .i64 (N:Int),.slice a nn c]] W fun e w'=>∃a2 c2,e = .returned (.tuple #[.agg #[.int .i64 0,.int .i64 0,.slice a2 0 c2],.int .i64 7])∧IC w' a2 0 []∧Below W.heap.size W w')
  (HC:∀W,Below w.heap.size w W→Calls Tryz.prog 82 #[.agg #[.int .i64 (N:Int),.int .i64 (N:Int),.slice a nn c]] W fun e w'=>e = .returned (.tuple #[.int .i64 t,.bool true])∧Below W.heap.size W w')
  (HR:∀W,Below w.heap.size w W→Calls Tryz.prog 49 #[.agg #[.int .i64 (N:Int),.int .i64 (N:Int),.slice a nn c]] W fun e w'=>e = .returned (.tuple #[.int .i64 d,.int .i64 7])∧Below W.heap.size W w')
  : Calls Tryz.prog 16 #[.agg #[.int .i64 (N:Int),.int .i64 (N:Int),.slice a nn c]] w fun e w'=>e = .returned (.bool true)∧Below w.heap.size w w':=by
 have hgI0:decide ((25:Int)<(nn:Int))=false:=decide_eq_false (by omega)
 have HA:=Lib.hid HA
 have HM:=Lib.hid HM
 have HC:=Lib.hid HC
 have HR:=Lib.hid HR
 go_enter Tryz.func16,Tryz.ntmps16
 go_upto_region 1 with fail
 have fsz:(w.alloc (.cells #[.int .i64 (N:Int),.int .i64 (N:Int),.slice a nn c] 24)).heap.size=w.heap.size+1:=by simp only[World.size_alloc]
 have fB:Below w.heap.size w (w.alloc (.cells #[.int .i64 (N:Int),.int .i64 (N:Int),.slice a nn c] 24)):=(Below.refl _ _).alloc (Nat.le_refl _) _
 have fq0:(w.alloc (.cells #[.int .i64 (N:Int),.int .i64 (N:Int),.slice a nn c] 24)).heap[w.heap.size]?=some (.cells #[.int .i64 (N:Int),.int .i64 (N:Int),.slice a nn c] 24 (0,0)):=by have h:=World.alloc_heap_new w (.cells #[.int .i64 (N:Int),.int .i64 (N:Int),.slice a nn c] 24);exact h
 generalize (w.alloc (.cells #[.int .i64 (N:Int),.int .i64 (N:Int),.slice a nn c] 24))=W0 at fsz fB fq0 ⊢
 have Q0:=Lib.hid fq0
 have FB:=Lib.hid fB
 obtain ⟨x0,x1,x2,xl⟩:=c3_of fq0
 clear fq0 fsz fB
 go_upto_region 5 with (first|(go_at_call 19;(with_reducible refine (lgreat_c (N:Int) (N:Int) a nn c 25 _).mono ?_);rintro _ w1 ⟨rfl,hbw1⟩;have hkw1:Below W0.heap.size W0 w1:=(by (repeat (first|assumption|exact Below.refl _ _|refine keep_drew ?_|refine keep_alloc ?_ _|refine keep_trans ?_ (by assumption))));obtain ⟨xw10,xw11,xw12,xw1l⟩:=c3_of (keepq hkw1 Q0.out))|(go_at_call 22;(with_reducible refine (HA.out _ (keep_trans FB.out (by (repeat (first|assumption|exact Below.refl _ _|refine keep_drew ?_|refine keep_alloc ?_ _|refine keep_trans ?_ (by assumption)))))).mono ?_);rintro _ w3 ⟨rfl,hbw3⟩;have hkw3:Below W0.heap.size W0 w3:=(by (repeat (first|assumption|exact Below.refl _ _|refine keep_drew ?_|refine keep_alloc ?_ _|refine keep_trans ?_ (by assumption))));obtain ⟨xw30,xw31,xw32,xw3l⟩:=c3_of (keepq hkw3 Q0.out))|(go_at_call 21;(with_reducible refine (HM.out _ (keep_trans FB.out (by (repeat (first|assumption|exact Below.refl _ _|refine keep_drew ?_|refine keep_alloc ?_ _|refine keep_trans ?_ (by assumption)))))).mono ?_);rintro _ w2 ⟨a2,c2,rfl,hi2,hbw2⟩)|fail)
 have hB2:Below W0.heap.size W0 w2:=by (repeat (first|assumption|exact Below.refl _ _|refine keep_drew ?_|refine keep_alloc ?_ _|refine keep_trans ?_ (by assumption)))
 have gsz:(w2.alloc (.cells #[.int .i64 0,.int .i64 0,.slice a2 0 c2] 24)).heap.size=w2.heap.size+1:=by simp only[World.size_alloc]
 have gB:Below w2.heap.size w2 (w2.alloc (.cells #[.int .i64 0,.int .i64 0,.slice a2 0 c2] 24)):=(Below.refl _ _).alloc (Nat.le_refl _) _
 have gq0:(w2.alloc (.cells #[.int .i64 0,.int .i64 0,.slice a2 0 c2] 24)).heap[w2.heap.size]?=some (.cells #[.int .i64 0,.int .i64 0,.slice a2 0 c2] 24 (0,0)):=by have h:=World.alloc_heap_new w2 (.cells #[.int .i64 0,.int .i64 0,.slice a2 0 c2] 24);exact h
 generalize (w2.alloc (.cells #[.int .i64 0,.int .i64 0,.slice a2 0 c2] 24))=V3 at gsz gB gq0 ⊢
 have Q3:=Lib.hid gq0
 have Q1:=Lib.hid (keepq (keep_trans hB2 gB) Q0.out)
 have HB3:=Lib.hid (keep_trans FB.out (keep_trans hB2 gB))
 have HI3:=Lib.hid (hi2.mono gB)
 clear gsz gq0 gB hB2 hi2 hbw2 x0 x1 x2 xl xw10 xw11 xw12 xw1l hkw1 hbw1 xw30 xw31 xw32 xw3l hkw3 hbw3
 obtain ⟨x0,x1,x2,xl⟩:=c3_of Q1.out
 obtain ⟨y0,y1,y2,yl⟩:=c3_of Q3.out
 go_wp2_with (first|(go_at_call 82;(with_reducible refine (HC.out _ (keep_trans HB3.out (by (repeat (first|assumption|exact Below.refl _ _|refine keep_drew ?_|refine keep_alloc ?_ _|refine keep_trans ?_ (by assumption)))))).mono ?_);rintro _ v1 ⟨rfl,hbv1⟩;have hkv1:Below V3.heap.size V3 v1:=(by (repeat (first|assumption|exact Below.refl _ _|refine keep_drew ?_|refine keep_alloc ?_ _|refine keep_trans ?_ (by assumption))));obtain ⟨xv10,xv11,xv12,xv1l⟩:=c3_of (keepq hkv1 Q1.out);obtain ⟨yv10,yv11,yv12,yv1l⟩:=c3_of (keepq hkv1 Q3.out))|(go_at_call 49;(with_reducible refine (HR.out _ (keep_trans HB3.out (by (repeat (first|assumption|exact Below.refl _ _|refine keep_drew ?_|refine keep_alloc ?_ _|refine keep_trans ?_ (by assumption)))))).mono ?_);rintro _ v2 ⟨rfl,hbv2⟩;have hkv2:Below V3.heap.size V3 v2:=(by (repeat (first|assumption|exact Below.refl _ _|refine keep_drew ?_|refine keep_alloc ?_ _|refine keep_trans ?_ (by assumption))));obtain ⟨xv20,xv21,xv22,xv2l⟩:=c3_of (keepq hkv2 Q1.out);obtain ⟨yv20,yv21,yv22,yv2l⟩:=c3_of (keepq hkv2 Q3.out))|(go_at_call 20;refine (awake4_c _).mono ?_;rintro _ wz ⟨rfl,hbz⟩)|fail)
 refine bodyPost_ret (v := .bool true) ?_ rfl ⟨rfl,keep_trans HB3.out (show Below V3.heap.size V3 wz by (repeat (first|assumption|exact Below.refl _ _|refine keep_drew ?_|refine keep_alloc ?_ _|refine keep_trans ?_ (by assumption))))⟩
 simp[results,Tryz.f16,go_sem]
theorem ldiv_d (N nn:Nat) (a:Option Addr) (c:Nat) (w:World) (hg0:¬25<nn) (hN1:1≤N) (hN2:N≤16) (hnn:nn=N*N) (cs ds:List Int) (h:IC w a nn cs) (t:Nat) (ht:N≤t) (d:Int)
  (HA:∀W,Below w.heap.size w W→Calls Tryz.prog 22 #[.agg #[.int .i64 (N:Int),.int .i64 (N:Int),.slice a nn c]] W fun e w'=>e = .returned (.int .i64 0)∧Below W.heap.size W w')
  (HM:∀W,Below w.heap.size w W→Calls Tryz.prog 21 #[.agg #[.int .i64 (N:Int),.int .i64 (N:Int),.slice a nn c]] W fun e w'=>∃a2 c2,e = .returned (.tuple #[.agg #[.int .i64 (N:Int),.int .i64 (N:Int),.slice a2 nn c2],.int .i64 0])∧IC w' a2 nn ds∧Below W.heap.size W w')
  (HC:∀W,Below w.heap.size w W→Calls Tryz.prog 82 #[.agg #[.int .i64 (N:Int),.int .i64 (N:Int),.slice a nn c]] W fun e w'=>e = .returned (.tuple #[.int .i64 (t:Int),.bool true])∧Below W.heap.size W w')
  (HR:∀W,Below w.heap.size w W→Calls Tryz.prog 49 #[.agg #[.int .i64 (N:Int),.int .i64 (N:Int),.slice a nn c]] W fun e w'=>e = .returned (.tuple #[.int .i64 d,.int .i64 7])∧Below W.heap.size W w')
  (HB:∀W a2 c2,IC W a2 nn ds→Calls Tryz.prog 22 #[.agg #[.int .i64 (N:Int),.int .i64 (N:Int),.slice a2 nn c2]] W fun e w'=>e = .returned (.int .i64 0)∧Below W.heap.size W w')
  (HO:∀W a2 c2,IC W a2 nn ds→IC W a nn cs→Calls Tryz.prog 45 #[.agg #[.int .i64 (N:Int),.int .i64 (N:Int),.slice a2 nn c2],.agg #[.int .i64 (N:Int),.int .i64 (N:Int),.slice a nn c]] W fun e w'=>e = .returned (.tuple #[.bool true,.int .i64 0])∧Below W.heap.size W w')
  (HT:∀W (x:Nat) aT cT,x<N→IC W a nn cs→IC W aT N (colsTo N ds (x:Int) nn)→Calls Tryz.prog 66 #[.agg #[.int .i64 (N:Int),.int .i64 (N:Int),.slice a nn c],.slice aT N cT] W fun e w'=>e = .returned (.tuple #[.bool true,.int .i64 0])∧Below W.heap.size W w')
  : Calls Tryz.prog 16 #[.agg #[.int .i64 (N:Int),.int .i64 (N:Int),.slice a nn c]] w fun e w'=>e = .returned (.bool true)∧Below w.heap.size w w':=by
 have HI:=Lib.hid h
 have HDV:Hid (∀k,k<nn→k / N<N):=fun k hk=>Nat.div_lt_of_lt_mul (by omega)
 have hnm:((N:Int) != (N:Int))=false:=by simp
 have htn:decide (t<N)=false:=decide_eq_false (by omega)
 obtain ⟨i0,hi0,hz0,hz1,hz2⟩:=info_parts infoInt
 clear hnn h
 have hgI0:decide ((25:Int)<(nn:Int))=false:=decide_eq_false (by omega)
 have HA:=Lib.hid HA
 have HM:=Lib.hid HM
 have HC:=Lib.hid HC
 have HR:=Lib.hid HR
 have HB:=Lib.hid HB
 have HO:=Lib.hid HO
 have HT:=Lib.hid HT
 go_enter Tryz.func16,Tryz.ntmps16
 go_upto_region 1 with fail
 have fsz:(w.alloc (.cells #[.int .i64 (N:Int),.int .i64 (N:Int),.slice a nn c] 24)).heap.size=w.heap.size+1:=by simp only[World.size_alloc]
 have fB:Below w.heap.size w (w.alloc (.cells #[.int .i64 (N:Int),.int .i64 (N:Int),.slice a nn c] 24)):=(Below.refl _ _).alloc (Nat.le_refl _) _
 have fq0:(w.alloc (.cells #[.int .i64 (N:Int),.int .i64 (N:Int),.slice a nn c] 24)).heap[w.heap.size]?=some (.cells #[.int .i64 (N:Int),.int .i64 (N:Int),.slice a nn c] 24 (0,0)):=by have h:=World.alloc_heap_new w (.cells #[.int .i64 (N:Int),.int .i64 (N:Int),.slice a nn c] 24);exact h
 generalize (w.alloc (.cells #[.int .i64 (N:Int),.int .i64 (N:Int),.slice a nn c] 24))=W0 at fsz fB fq0 ⊢
 have Q0:=Lib.hid fq0
 have FB:=Lib.hid fB
 obtain ⟨x0,x1,x2,xl⟩:=c3_of fq0
 clear fq0 fsz fB
 go_upto_region 5 with (first|(go_at_call 19;(with_reducible refine (lgreat_c (N:Int) (N:Int) a nn c 25 _).mono ?_);rintro _ w1 ⟨rfl,hbw1⟩;have hkw1:Below W0.heap.size W0 w1:=(by (repeat (first|assumption|exact Below.refl _ _|refine keep_drew ?_|refine keep_alloc ?_ _|refine keep_trans ?_ (by assumption))));obtain ⟨xw10,xw11,xw12,xw1l⟩:=c3_of (keepq hkw1 Q0.out))|(go_at_call 22;(with_reducible refine (HA.out _ (keep_trans FB.out (by (repeat (first|assumption|exact Below.refl _ _|refine keep_drew ?_|refine keep_alloc ?_ _|refine keep_trans ?_ (by assumption)))))).mono ?_);rintro _ w3 ⟨rfl,hbw3⟩;have hkw3:Below W0.heap.size W0 w3:=(by (repeat (first|assumption|exact Below.refl _ _|refine keep_drew ?_|refine keep_alloc ?_ _|refine keep_trans ?_ (by assumption))));obtain ⟨xw30,xw31,xw32,xw3l⟩:=c3_of (keepq hkw3 Q0.out))|(go_at_call 21;(with_reducible refine (HM.out _ (keep_trans FB.out (by (repeat (first|assumption|exact Below.refl _ _|refine keep_drew ?_|refine keep_alloc ?_ _|refine keep_trans ?_ (by assumption)))))).mono ?_);rintro _ w2 ⟨a2,c2,rfl,hi2,hbw2⟩)|fail)
 have hB2:Below W0.heap.size W0 w2:=by (repeat (first|assumption|exact Below.refl _ _|refine keep_drew ?_|refine keep_alloc ?_ _|refine keep_trans ?_ (by assumption)))
 have gsz:(w2.alloc (.cells #[.int .i64 (N:Int),.int .i64 (N:Int),.slice a2 nn c2] 24)).heap.size=w2.heap.size+1:=by simp only[World.size_alloc]
 have gB:Below w2.heap.size w2 (w2.alloc (.cells #[.int .i64 (N:Int),.int .i64 (N:Int),.slice a2 nn c2] 24)):=(Below.refl _ _).alloc (Nat.le_refl _) _
 have gq0:(w2.alloc (.cells #[.int .i64 (N:Int),.int .i64 (N:Int),.slice a2 nn c2] 24)).heap[w2.heap.size]?=some (.cells #[.int .i64 (N:Int),.int .i64 (N:Int),.slice a2 nn c2] 24 (0,0)):=by have h:=World.alloc_heap_new w2 (.cells #[.int .i64 (N:Int),.int .i64 (N:Int),.slice a2 nn c2] 24);exact h
 generalize (w2.alloc (.cells #[.int .i64 (N:Int),.int .i64 (N:Int),.slice a2 nn c2] 24))=V3 at gsz gB gq0 ⊢
 have Q3:=Lib.hid gq0
 have Q1:=Lib.hid (keepq (keep_trans hB2 gB) Q0.out)
 have HB3:=Lib.hid (keep_trans FB.out (keep_trans hB2 gB))
 have HI3:=Lib.hid (hi2.mono gB)
 clear gsz gq0 gB hB2 hi2 hbw2 x0 x1 x2 xl xw10 xw11 xw12 xw1l hkw1 hbw1 xw30 xw31 xw32 xw3l hkw3 hbw3
 obtain ⟨x0,x1,x2,xl⟩:=c3_of Q1.out
 obtain ⟨y0,y1,y2,yl⟩:=c3_of Q3.out
 go_upto_region 11 with (first|(go_at_call 82;(with_reducible refine (HC.out _ (keep_trans HB3.out (by (repeat (first|assumption|exact Below.refl _ _|refine keep_drew ?_|refine keep_alloc ?_ _|refine keep_trans ?_ (by assumption)))))).mono ?_);rintro _ v1 ⟨rfl,hbv1⟩;have hkv1:Below V3.heap.size V3 v1:=(by (repeat (first|assumption|exact Below.refl _ _|refine keep_drew ?_|refine keep_alloc ?_ _|refine keep_trans ?_ (by assumption))));obtain ⟨xv10,xv11,xv12,xv1l⟩:=c3_of (keepq hkv1 Q1.out);obtain ⟨yv10,yv11,yv12,yv1l⟩:=c3_of (keepq hkv1 Q3.out))|(go_at_call 49;(with_reducible refine (HR.out _ (keep_trans HB3.out (by (repeat (first|assumption|exact Below.refl _ _|refine keep_drew ?_|refine keep_alloc ?_ _|refine keep_trans ?_ (by assumption)))))).mono ?_);rintro _ v2 ⟨rfl,hbv2⟩;have hkv2:Below V3.heap.size V3 v2:=(by (repeat (first|assumption|exact Below.refl _ _|refine keep_drew ?_|refine keep_alloc ?_ _|refine keep_trans ?_ (by assumption))));obtain ⟨xv20,xv21,xv22,xv2l⟩:=c3_of (keepq hkv2 Q1.out);obtain ⟨yv20,yv21,yv22,yv2l⟩:=c3_of (keepq hkv2 Q3.out))|fail)
 have hB4:Below V3.heap.size V3 v2:=by (repeat (first|assumption|exact Below.refl _ _|refine keep_drew ?_|refine keep_alloc ?_ _|refine keep_trans ?_ (by assumption)))
 have Q1:=Lib.hid (keepq hB4 Q1.out)
 have Q3:=Lib.hid (keepq hB4 Q3.out)
 have HB4:=Lib.hid (keep_trans HB3.out hB4)
 have HI4:=Lib.hid (HI3.out.mono hB4)
 clear x0 x1 x2 xl y0 y1 y2 yl xv10 xv11 xv12 xv1l yv10 yv11 yv12 yv1l xv20 xv21 xv22 xv2l yv20 yv21 yv22 yv2l hkv1 hkv2 hbv1 hbv2 hB4
 obtain ⟨x0,x1,x2,xl⟩:=c3_of Q1.out
 obtain ⟨y0,y1,y2,yl⟩:=c3_of Q3.out
 have HCB:=Lib.hid (HB.out v2 a2 c2 HI4.out)
 go_upto_region 13 with (first|(go_at_call 22;(with_reducible refine HCB.out.mono ?_);rintro _ v5 ⟨rfl,hbv5⟩;obtain ⟨y50,y51,y52,y5l⟩:=c3_of (keepq hbv5 Q3.out))|fail)
 have Q5:=Lib.hid (keepq hbv5 Q1.out)
 have Q6:=Lib.hid (keepq hbv5 Q3.out)
 have HB5:=Lib.hid (keep_trans HB4.out hbv5)
 have HI5:=Lib.hid (HI4.out.mono hbv5)
 clear x0 x1 x2 xl y0 y1 y2 yl y50 y51 y52 y5l hbv5 HCB
 go_wp2_with fail
 go_loopw [10,11,12,13,14,15] (fun s10 _ _ _ _ _ wr=>∃x:Nat,x≤N∧s10 = .int .i64 (x:Int)∧Hid (Below v5.heap.size v5 wr)) (fun s10 _ _ _ _ _ _=>N - (intOf s10).toNat)
 case atStart=>exact ⟨0,by omega,rfl,Below.refl _ _⟩
 case round =>
  obtain ⟨x,hx,rfl,hbr⟩:=hrel
  obtain ⟨x0,x1,x2,xl⟩:=c3_of (keepq hbr.out Q5.out)
  obtain ⟨y0,y1,y2,yl⟩:=c3_of (keepq hbr.out Q6.out)
  by_cases hlt:x<N
  ·have hxi:(x:Int)<(N:Int):=by omega
   go_upto_region 17 with (first|(refine wpList_make_full _ rfl _ _ 22 rfl wr.heap.size 3 i0 (.int .i64 0) 1 Tryz.underlying22 hi0 hz0 hz1 _ _ _ _ N rfl rfl rfl rfl (by rw[hz2];omega) (by unfold maxLen;omega) (Nat.le_refl _) ?_;intro W4 hown4 hgr4;have hb4:Below wr.heap.size wr W4:=(Below.refl wr.heap.size wr).grown hgr4 (Nat.le_refl _) (fun k e=>by cases e))|fail)
   rw[made_zeroC N] at hown4
   have OI4:Hid (OI W4 wr.heap.size wr.heap.size N N (colsTo N ds (x:Int) 0)):=⟨colsTo_len _ _ _ _,hown4⟩
   have HB44:=Lib.hid hb4
   clear x0 x1 x2 xl y0 y1 y2 yl hown4 hgr4 hb4
   obtain ⟨y0,y1,y2,yl⟩:=c3_of (keepq (keep_trans hbr.out HB44.out) Q6.out)
   have hgs:v5.heap.size≤wr.heap.size:=hbr.out.size
   have HGB:Hid (∀b2 o2,a2=some ⟨b2,o2,none⟩→0<nn→b2<wr.heap.size):=fun b2 o2 e hp=>by
    obtain ⟨b3,o3,e3,hl,_⟩:=(HI5.out.mono hbr.out).2 0 hp
    rw[e] at e3
    cases e3
    exact hl
   obtain ⟨g,hg⟩:∃g,g=wr.heap.size:=⟨_,rfl⟩
   rw[← hg] at OI4 HB44 ⊢
   have HGG:=Lib.hid hg
   clear hg
   go_wp2_with fail
   go_loopw [12,13,94] (fun _ _ s94 wr9=>∃k:Nat,k≤nn∧s94 = .int .i64 (k:Int)∧Hid (OI wr9 g g N N (colsTo N ds (x:Int) k))∧Hid (Below g wr wr9)) (fun _ _ s94 _=>nn - (intOf s94).toNat)
   case atStart=>exact ⟨0,by omega,rfl,OI4,HB44⟩
   case round =>
    obtain ⟨k,hk,rfl,hO,hb9⟩:=hrel
    clear y0 y1 y2 yl OI4
    have hbi:=keep_trans hbr.out (HGG.out▸hb9.out)
    by_cases hlt2:k<nn
    ·have hki:(k:Int)<(nn:Int):=by omega
     obtain ⟨b1,off1,rfl,hbl1,hc1⟩:=(HI5.out.mono hbi).2 k hlt2
     have hb1g:b1≠g:=by have:=HGB.out b1 off1 rfl (by omega);have:=HGG.out;omega
     have HCT:Hid (colsTo N ds (x:Int) (k+1)=if ds[k]?.getD 0=(x:Int) then (colsTo N ds (x:Int) k).set (k / N) ((k % N:Nat):Int) else colsTo N ds (x:Int) k):=rfl
     generalize ds[k]?.getD 0=y at hc1 HCT
     by_cases hyx:y=(x:Int)
     ·have hb:(y==(x:Int))=true:=by simpa using hyx
      rw[if_pos hyx] at HCT
      have e1:(k:Int) / (N:Int)=((k / N:Nat):Int):=(Int.natCast_ediv _ _).symm
      have e2:(k:Int) % (N:Int)=((k % N:Nat):Int):=(Int.natCast_emod _ _).symm
      have d1:=HDV.out k hlt2
      have d2:k % N<N:=Nat.mod_lt _ (by omega)
      obtain ⟨u0,u1,u2⟩:=hO.out.at d1
      have k1:=Lib.hid (hO.out.set (k / N) ((k % N:Nat):Int))
      rw[← HCT.out] at k1
      generalize (colsTo N ds (x:Int) k)[k / N]?.getD 0=ov at u0
      generalize k / N=q at e1 d1 u0 u1 k1
      generalize k % N=s at e2 d2 k1
      have hne:(N:Int)≠0:=by omega
      have hqN:(q:Int)<(N:Int):=by omega
      clear hyx hbi HCT
      go_wp2_with fail
      refine wp_region_S (fun w'=>∃u,w'=over (wr) u) [8] [(0,0),(0,1),(0,2),(0,3),(0,4),(0,5),(0,6),(0,7),(2,8)] (by kernel_rfl) (by kernel_rfl) (by exact ⟨_,below_over (by repeat (first|assumption|exact Below.refl _ _|refine keep_drew ?_|refine keep_alloc ?_ _|refine keep_trans ?_ (by assumption)))⟩) ?_
      dsimp only[pickOps,nthOp]
      repeat (first|(refine wpS_skip rfl (fun K hK=>?_);go_big_quiet_op;refine hK _ ?_;clear hK K)|(refine wpS_quiet rfl rfl (fun K hK=>?_);go_big_quiet_op;refine hK _ ?_;clear hK K))
      refine wpS_late _ _ _ rfl ?_
      dsimp only[List.map]
      go_wp2
      refine NoPanic.normal ?_
      go_wp2_with fail
      go_roundw
      case rel=>exact ⟨k+1,by omega,by go_num,k1.out.drew,(hb9.out.setCell (p:=⟨g,q,none⟩) (Nat.le_refl _) _).drew⟩
      case measure=>simp[intOf];omega
     ·have hb:(y==(x:Int))=false:=by simpa using hyx
      rw[if_neg hyx] at HCT
      clear hyx hbi
      go_wp2_with fail
      go_roundw
      case rel=>exact ⟨k+1,by omega,by go_num,by rw[HCT.out];exact hO,hb9⟩
      case measure=>simp[intOf];omega
    ·have e:k=nn:=by omega
     have hki:¬(k:Int)<(nn:Int):=by omega
     rw[e] at hO
     have hia:=HI.out.mono (keep_trans HB5.out hbi)
     have HTR:=Lib.hid (HT.out wr x (some ⟨g,0,none⟩) N hlt hia (hO.out.ic (by omega)))
     obtain ⟨x0,x1,x2,xl⟩:=c3_of (keepq hbi Q5.out)
     have HBI:=Lib.hid hbi
     clear e hia hbi
     go_wp2_with (first|(go_at_call 66;(with_reducible refine HTR.out.mono ?_);rintro _ w8 ⟨rfl,hbw8⟩)|fail)
     go_roundw
     case rel=>exact ⟨x+1,by omega,by go_num,keep_trans HBI.out hbw8⟩
     case measure=>simp[intOf];omega
  ·have hxi:¬(x:Int)<(N:Int):=by omega
   have HOR:=Lib.hid (HO.out wr a2 c2 (HI5.out.mono hbr.out) (HI.out.mono (keep_trans HB5.out hbr.out)))
   go_wp2_with (first|(go_at_call 45;(with_reducible refine HOR.out.mono ?_);rintro _ w8 ⟨rfl,hbw8⟩)|(go_at_call 20;refine (awake4_c _).mono ?_;rintro _ wz ⟨rfl,hbz⟩)|fail)
   refine bodyPost_ret (v := .bool true) ?_ rfl ⟨rfl,keep_trans (keep_trans HB5.out hbr.out) (show Below wr.heap.size wr wz by (repeat (first|assumption|exact Below.refl _ _|refine keep_drew ?_|refine keep_alloc ?_ _|refine keep_trans ?_ (by assumption))))⟩
   simp[results,Tryz.f16,go_sem]
theorem orth_true {N:Nat} {cs ds:List Int} (L:Latin N cs) (D:Latin N ds) (hO:Ortho cs ds):orthV (N:Int) (N:Int) cs (N:Int) (N:Int) ds = .tuple #[.bool true,.int .i64 0]:=by
 have h:twoE (N:Int) (N:Int) cs (N:Int) (N:Int) ds=0:=by
  unfold twoE
  rw[lat_sqE L,lat_sqE D,show ((N:Int) != (N:Int))=false by simp]
  rfl
 unfold orthV
 rw[if_pos h,meetR_none.2 hO]
 rfl
theorem trE_zero {N:Nat} {cs:List Int} (L:Latin N cs) (h7:N≤7):trE (N:Int) (N:Int) cs=0∧trL (N:Int) (N:Int) cs=transL N cs N []:=by
 have h:trE (N:Int) (N:Int) cs=0:=by
  unfold trE
  rw[lat_sqE L,decide_eq_false (show ¬(7:Int)<(N:Int) by omega)]
  rfl
 refine ⟨h,?_⟩
 unfold trL
 rw[if_pos h];rfl
theorem isT_true {N:Nat} {cs ts:List Int} (L:Latin N cs) (hl:ts.length=N) (hr:∀y,y∈ts→0≤y∧y<(N:Int)) (hb:transB N cs ts=true):isTB (N:Int) (N:Int) cs ts=true∧isTE (N:Int) (N:Int) cs ts=0:=by
 have hF:isTF (N:Int) (N:Int) cs ts=0:=by
  unfold isTF
  rw[lat_sqE L,hl,show ((N:Int) != (N:Int))=false by simp]
  rfl
 have hE:isTE (N:Int) (N:Int) cs ts=0:=by
  unfold isTE
  rw[if_pos hF,if_neg]
  unfold anyP
  rw[Bool.not_eq_true,List.any_eq_false]
  intro k hk
  have hk2:=List.mem_range.1 hk
  have:=hr _ (List.getElem_mem hk2)
  unfold outP
  rw[List.getElem?_eq_getElem hk2,Option.getD_some]
  simp only[Bool.or_eq_true,decide_eq_true_eq]
  omega
 refine ⟨?_,hE⟩
 unfold isTB
 rw[hE,Int.toNat_natCast,hb];rfl
theorem ldivides_c (r C:Int) (a:Option Addr) (n c:Nat) (cs:List Int) (w:World) (h:IC w a n cs) (_hcap:n≤c):Calls Tryz.prog 16 #[.agg #[.int .i64 r,.int .i64 C,.slice a n c]] w fun e w'=>e = .returned (.bool true)∧Below w.heap.size w w':=by
 by_cases g1:25<n
 ·exact ldiv_g r C a n c w g1
 have HA:=fun W (hb:Below w.heap.size w W)=>rcheck_c r C a n c cs W (h.mono hb)
 by_cases h0:sqE 0 r C cs=0
 ·rw[h0] at HA
  obtain ⟨N,rfl,rfl,L⟩:=sqE_ok h0
  have hN1:=L.pos
  have hn:n=N*N:=by rw[← h.len];exact L.len
  have h5:N≤5:=by
   by_cases h6:N≤5
   ·exact h6
   ·have:=Nat.mul_le_mul (show 6≤N by omega) (show 6≤N by omega)
    omega
  have hE:mtE (N:Int) (N:Int) cs=0:=by unfold mtE;rw[h0,decide_eq_false (show ¬(5:Int)<(N:Int) by omega)];rfl
  have HM:=fun W (hb:Below w.heap.size w W)=>mate_c (N:Int) (N:Int) a n c cs W (h.mono hb)
  have HC:=fun W (hb:Below w.heap.size w W)=>lcount_c (N:Int) (N:Int) a n c cs W (h.mono hb)
  rw[(trE_zero L (by omega)).1,(trE_zero L (by omega)).2] at HC
  have HR:=fun W (hb:Below w.heap.size w W)=>lrefute_c N a n c cs W (h.mono hb) L.sq h0
  have hEr:mtEr (N:Int) (N:Int) cs=if (mtO N cs).isSome then 0 else 7:=by unfold mtEr;rw[if_pos hE];rfl
  have hL:mtL (N:Int) (N:Int) cs=(mtO N cs).getD []:=by unfold mtL;rw[if_pos hE];rfl
  have HM0:mtO N cs=none→∀W,Below w.heap.size w W→Calls Tryz.prog 21 #[.agg #[.int .i64 (N:Int),.int .i64 (N:Int),.slice a n c]] W fun e w'=>∃a2 c2,e = .returned (.tuple #[.agg #[.int .i64 0,.int .i64 0,.slice a2 0 c2],.int .i64 7])∧IC w' a2 0 []∧Below W.heap.size W w':=fun ho W hb=>by
   have h2:=HM W hb
   rw[hEr,hL,ho] at h2
   refine h2.mono fun e w' hg=>?_
   obtain ⟨a2,c2,he,hi,_,hb2⟩:=gv_of hg (by decide)
   exact ⟨a2,c2,he,hi,hb2⟩
  cases hl:leastR N cs with
  | some D =>
   have hD:refuB N cs (D:Int)=true:=by
    have:=List.find?_some (p:=fun (d:Nat)=>refuB N cs (d:Int)) hl
    exact this
   have ho:mtO N cs=none:=by
    cases ho:mtO N cs with
    | none=>rfl
    | some ds =>
     obtain ⟨DL,hO⟩:=mate_sound L ho
     exact (refuted_mate L DL hD hO).elim
   have hv:refV N cs=(D:Int):=by unfold refV;rw[hl];rfl
   have he:refEr N cs=0:=by unfold refEr;rw[hl];rfl
   rw[hv,he] at HR
   rw[refuted_none L hD] at HC
   refine ldiv_b N n a c w g1 (D:Int) HA (HM0 ho) HC HR (fun W hb=>?_)
   have:=lcheckref_c N a n c cs (D:Int) W (h.mono hb) L.sq h0
   rw[hD] at this
   exact this
  | none =>
   have hv:refV N cs=0:=by unfold refV;rw[hl];rfl
   have he:refEr N cs=7:=by unfold refEr;rw[hl];rfl
   rw[hv,he] at HR
   cases ho:mtO N cs with
   | none=>exact ldiv_c N n a c w g1 _ 0 HA (HM0 ho) HC HR
   | some ds =>
    obtain ⟨DL,hO⟩:=mate_sound L ho
    have hdl:ds.length=n:=by rw[DL.len,hn]
    refine ldiv_d N n a c w g1 hN1 (by omega) hn cs ds h _ (mate_many L DL hO) 0 HA (fun W hb=>?_) HC HR (fun W a2 c2 hi=>?_) (fun W a2 c2 hi hj=>?_) (fun W x aT cT hx hi ht=>?_)
    ·have h2:=HM W hb
     rw[hEr,hL,ho] at h2
     refine h2.mono fun e w' hg=>?_
     obtain ⟨a2,c2,he,hi,_,hb2⟩:=gv_of hg (by rw[Option.getD_some,hdl];omega)
     rw[Option.getD_some,hdl] at he hi
     exact ⟨a2,c2,he,hi,hb2⟩
    ·have:=rcheck_c (N:Int) (N:Int) a2 n c2 ds W hi
     rw[lat_sqE DL] at this
     exact this
    ·have:=orth_c (N:Int) (N:Int) (N:Int) (N:Int) a2 n c2 ds a n c cs W hi hj
     rw[orth_true DL L (ortho_comm (by rw[L.len,DL.len]) hO)] at this
     exact this
    ·have hct:=cols_trans L DL hO (x:=(x:Int)) (by omega) (by omega)
     rw[← hn] at hct
     have:=isT_c (N:Int) (N:Int) a n c cs aT N cT _ W hi ht
     rw[(isT_true L (colsTo_len _ _ _ _) hct.1 hct.2).1,(isT_true L (colsTo_len _ _ _ _) hct.1 hct.2).2] at this
     exact this
 ·exact ldiv_a r C a n c w g1 _ h0 HA
end
end Go.Proofs.YtmfpdakaeagdpaaGreat
