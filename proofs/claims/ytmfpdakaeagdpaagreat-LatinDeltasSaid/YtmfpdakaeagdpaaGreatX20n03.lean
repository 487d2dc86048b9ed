/- Texts J115 to J115 of this proof, in one file. -/
import Derived.Test.YtmfpdakaeagdpaaGreatW01
import Derived.Test.YtmfpdakaeagdpaaGreatW02
import Derived.Test.YtmfpdakaeagdpaaGreatW03
import Derived.Test.YtmfpdakaeagdpaaGreatW04
import Derived.Test.YtmfpdakaeagdpaaGreatW05
import Derived.Test.YtmfpdakaeagdpaaGreatW06
import Derived.Test.YtmfpdakaeagdpaaGreatW07
import Derived.Test.YtmfpdakaeagdpaaGreatW08
import Derived.Test.YtmfpdakaeagdpaaGreatW09
import Derived.Test.YtmfpdakaeagdpaaGreatW10
import Derived.Test.YtmfpdakaeagdpaaGreatW11
import Derived.Test.YtmfpdakaeagdpaaGreatW12
import Derived.Test.YtmfpdakaeagdpaaGreatW13
import Derived.Test.YtmfpdakaeagdpaaGreatW14
import Derived.Test.YtmfpdakaeagdpaaGreatW15
import Derived.Test.YtmfpdakaeagdpaaGreatW16
import Derived.Test.YtmfpdakaeagdpaaGreatW17
import Derived.Test.YtmfpdakaeagdpaaGreatW18
import Derived.Test.YtmfpdakaeagdpaaGreatW19
import Derived.Test.YtmfpdakaeagdpaaGreatW20
import Derived.Test.YtmfpdakaeagdpaaGreatW21
import Derived.Test.YtmfpdakaeagdpaaGreatW22
import Derived.Test.YtmfpdakaeagdpaaGreatW23
import Derived.Test.YtmfpdakaeagdpaaGreatW24
import Derived.Test.YtmfpdakaeagdpaaGreatW25
import Derived.Test.YtmfpdakaeagdpaaGreatW26
import Derived.Test.YtmfpdakaeagdpaaGreatW27
import Derived.Test.YtmfpdakaeagdpaaGreatX20n01
import Derived.Test.YtmfpdakaeagdpaaGreatX20n02
import Derived.Below
import Derived.BigFrame
import Derived.BigQuiet
import Derived.Deep.CutBlock
import Derived.Deep.CutRange
import Derived.Deep.LoopGhost
import Derived.Deep.Quiet
import Derived.Deep.RegionHeld3
import Derived.DeepKeys4
import Derived.KernelRfl
import Derived.Laws.BitsAllLaws
import Derived.Laws.EntriesVeiled
import Derived.Lib.AppendZeros
import Derived.Lib.Hide
import Derived.Lib.SlKeysI
import Derived.Lib.SliceRun
import Derived.LoopIn
import Derived.LoopNIn
import Derived.Maps.AppendAt
import Derived.Maps.OwnIn
import Derived.Maps.OwnSet
import Derived.OneCell
import Derived.OrdersHeld
import Derived.OrdersIn
import Derived.OwnWalkIn
import Derived.RangeFuncBound
import Derived.RangeFuncBox
import Derived.RangeFuncCalls
import Derived.RangeFuncLeaves
import Derived.RangeFuncNested
import Derived.RangeFuncWrites
import Derived.Shelf.Abstract
import Derived.Shelf.SortM.Plain
import Derived.Still
import Derived.TacticsIn
import Derived.TacticsInMore
import Derived.Test.YtmfpdakaeagdpaaGreatProg
import Derived.WalkKit
import Derived.WalkLawsBesides
import Derived.WalkSpells
import Derived.WideKeyPair
namespace Go.Proofs.YtmfpdakaeagdpaaGreat
set_option maxRecDepth 100000
set_option maxHeartbeats 16000000
section
open Go Go.RowKit
attribute [local go_sem] over_cell
attribute [local go_sem] Oper.semAt_some
theorem ldeltas_g (r C:Int) (a:Option Addr) (n c:Nat) (d:Int) (w:World) (hg:300<n):Calls Tryz.prog 10 #[.agg #[.int .i64 r,.int .i64 C,.slice a n c],.int .i64 d] w fun e w'=>e = .returned (.bool true)∧Below w.heap.size w w':=by
 have hgI:decide ((300:Int)<(n:Int))=true:=decide_eq_true (by omega)
 go_enter Tryz.func10,Tryz.ntmps10
 go_upto_region 1 with fail
 have fsz:(w.alloc (.cells #[.int .i64 r,.int .i64 C,.slice a n c] 24)).heap.size=w.heap.size+1:=by simp only[World.size_alloc]
 have fB:Below w.heap.size w (w.alloc (.cells #[.int .i64 r,.int .i64 C,.slice a n c] 24)):=(Below.refl _ _).alloc (Nat.le_refl _) _
 have fq0:(w.alloc (.cells #[.int .i64 r,.int .i64 C,.slice a n c] 24)).heap[w.heap.size]?=some (.cells #[.int .i64 r,.int .i64 C,.slice a n c] 24 (0,0)):=by have h:=World.alloc_heap_new w (.cells #[.int .i64 r,.int .i64 C,.slice a n c] 24);exact h
 generalize (w.alloc (.cells #[.int .i64 r,.int .i64 C,.slice a n c] 24))=W0 at fsz fB fq0 ⊢
 have Q0:=Lib.hid fq0
 have FB:=Lib.hid fB
 obtain ⟨x0,x1,x2,xl⟩:=c3_of fq0
 clear fq0 fsz fB
 go_wp2_with (first|(go_at_call 19;refine (lgreat_c _ _ _ _ _ 300 _).mono ?_;rintro _ w1 ⟨rfl,hbw1⟩;have hkw1:Below W0.heap.size W0 w1:=(by (repeat (first|assumption|exact Below.refl _ _|refine keep_drew ?_|refine keep_alloc ?_ _|refine keep_trans ?_ (by assumption))));obtain ⟨xw10,xw11,xw12,xw1l⟩:=c3_of (keepq hkw1 Q0.out))|(go_at_call 20;refine (awake4_c _).mono ?_;rintro _ wz ⟨rfl,hbz⟩)|fail)
 refine bodyPost_ret (v := .bool true) ?_ rfl ⟨rfl,keep_trans FB.out (show Below W0.heap.size W0 wz by (repeat (first|assumption|exact Below.refl _ _|refine keep_drew ?_|refine keep_alloc ?_ _|refine keep_trans ?_ (by assumption))))⟩
 simp[results,Tryz.f10,go_sem]
theorem ldeltas_a (r C:Int) (a:Option Addr) (n c:Nat) (d:Int) (w:World) (hg0:¬300<n) (ea:Int) (h0:ea≠0)
  (HD:∀W,Below w.heap.size w W→Calls Tryz.prog 48 #[.agg #[.int .i64 r,.int .i64 C,.slice a n c]] W fun e w'=>∃a2 c2,e = .returned (.tuple #[.agg #[.int .i64 0,.int .i64 0,.slice a2 0 c2],.int .i64 ea])∧IC w' a2 0 []∧Below W.heap.size W w')
  (HE:∀W,Below w.heap.size w W→Calls Tryz.prog 49 #[.agg #[.int .i64 r,.int .i64 C,.slice a n c]] W fun e w'=>e = .returned (.tuple #[.int .i64 0,.int .i64 ea])∧Below W.heap.size W w')
  (HK:∀W,Below w.heap.size w W→Calls Tryz.prog 50 #[.agg #[.int .i64 r,.int .i64 C,.slice a n c],.int .i64 d] W fun e w'=>e = .returned (.int .i64 ea)∧Below W.heap.size W w')
  (HA:∀W,Below w.heap.size w W→Calls Tryz.prog 22 #[.agg #[.int .i64 r,.int .i64 C,.slice a n c]] W fun e w'=>e = .returned (.int .i64 ea)∧Below W.heap.size W w')
  : Calls Tryz.prog 10 #[.agg #[.int .i64 r,.int .i64 C,.slice a n c],.int .i64 d] w fun e w'=>e = .returned (.bool true)∧Below w.heap.size w w':=by
 have hgI0:decide ((300:Int)<(n:Int))=false:=decide_eq_false (by omega)
 have HD:=Lib.hid HD
 have HE:=Lib.hid HE
 have HK:=Lib.hid HK
 have HA:=Lib.hid HA
 have e1:(ea != 0)=true:=by simpa using h0
 have e2:(ea==ea)=true:=by simp
 have ex0:=h0
 clear h0
 go_enter Tryz.func10,Tryz.ntmps10
 go_upto_region 1 with fail
 have fsz:(w.alloc (.cells #[.int .i64 r,.int .i64 C,.slice a n c] 24)).heap.size=w.heap.size+1:=by simp only[World.size_alloc]
 have fB:Below w.heap.size w (w.alloc (.cells #[.int .i64 r,.int .i64 C,.slice a n c] 24)):=(Below.refl _ _).alloc (Nat.le_refl _) _
 have fq0:(w.alloc (.cells #[.int .i64 r,.int .i64 C,.slice a n c] 24)).heap[w.heap.size]?=some (.cells #[.int .i64 r,.int .i64 C,.slice a n c] 24 (0,0)):=by have h:=World.alloc_heap_new w (.cells #[.int .i64 r,.int .i64 C,.slice a n c] 24);exact h
 generalize (w.alloc (.cells #[.int .i64 r,.int .i64 C,.slice a n c] 24))=W0 at fsz fB fq0 ⊢
 have Q0:=Lib.hid fq0
 have FB:=Lib.hid fB
 obtain ⟨x0,x1,x2,xl⟩:=c3_of fq0
 clear fq0 fsz fB
 go_upto_region 4 with (first|(go_at_call 19;(with_reducible refine (lgreat_c r C a n c 300 _).mono ?_);rintro _ w1 ⟨rfl,hbw1⟩;have hkw1:Below W0.heap.size W0 w1:=(by (repeat (first|assumption|exact Below.refl _ _|refine keep_drew ?_|refine keep_alloc ?_ _|refine keep_trans ?_ (by assumption))));obtain ⟨xw10,xw11,xw12,xw1l⟩:=c3_of (keepq hkw1 Q0.out))|(go_at_call 48;(with_reducible refine (HD.out _ (keep_trans FB.out (by (repeat (first|assumption|exact Below.refl _ _|refine keep_drew ?_|refine keep_alloc ?_ _|refine keep_trans ?_ (by assumption)))))).mono ?_);rintro _ w2 ⟨a2,c2,rfl,hi2,hbw2⟩)|fail)
 have hB2:Below W0.heap.size W0 w2:=by (repeat (first|assumption|exact Below.refl _ _|refine keep_drew ?_|refine keep_alloc ?_ _|refine keep_trans ?_ (by assumption)))
 have gsz:(w2.alloc (.cells #[.int .i64 0,.int .i64 0,.slice a2 0 c2] 24)).heap.size=w2.heap.size+1:=by simp only[World.size_alloc]
 have gB:Below w2.heap.size w2 (w2.alloc (.cells #[.int .i64 0,.int .i64 0,.slice a2 0 c2] 24)):=(Below.refl _ _).alloc (Nat.le_refl _) _
 have gq0:(w2.alloc (.cells #[.int .i64 0,.int .i64 0,.slice a2 0 c2] 24)).heap[w2.heap.size]?=some (.cells #[.int .i64 0,.int .i64 0,.slice a2 0 c2] 24 (0,0)):=by have h:=World.alloc_heap_new w2 (.cells #[.int .i64 0,.int .i64 0,.slice a2 0 c2] 24);exact h
 generalize (w2.alloc (.cells #[.int .i64 0,.int .i64 0,.slice a2 0 c2] 24))=V3 at gsz gB gq0 ⊢
 have Q3:=Lib.hid gq0
 have Q1:=Lib.hid (keepq (keep_trans hB2 gB) Q0.out)
 have HB3:=Lib.hid (keep_trans FB.out (keep_trans hB2 gB))
 have HI3:=Lib.hid (hi2.mono gB)
 clear gsz gq0 gB hB2 hi2 hbw2 x0 x1 x2 xl xw10 xw11 xw12 xw1l hkw1 hbw1
 obtain ⟨x0,x1,x2,xl⟩:=c3_of Q1.out
 obtain ⟨y0,y1,y2,yl⟩:=c3_of Q3.out
 have HMD:Hid (madeB 0 0 [] ea 0 0 [] ea=true):=by unfold Hid madeB sameG;simp[ex0,sameB]
 have HC:=Lib.hid (fun W (hb:Below V3.heap.size V3 W)=>lmade_v 0 0 a2 0 c2 [] ea 0 0 none 0 0 [] ea W true HMD.out (HI3.out.mono hb) ⟨⟨rfl,by omega⟩,fun k hk=>absurd hk (by omega)⟩)
 go_wp2_with (first|(go_at_call 49;(with_reducible refine (HE.out _ (keep_trans HB3.out (by (repeat (first|assumption|exact Below.refl _ _|refine keep_drew ?_|refine keep_alloc ?_ _|refine keep_trans ?_ (by assumption)))))).mono ?_);rintro _ v1 ⟨rfl,hbv1⟩;have hkv1:Below V3.heap.size V3 v1:=(by (repeat (first|assumption|exact Below.refl _ _|refine keep_drew ?_|refine keep_alloc ?_ _|refine keep_trans ?_ (by assumption))));obtain ⟨xv10,xv11,xv12,xv1l⟩:=c3_of (keepq hkv1 Q1.out);obtain ⟨yv10,yv11,yv12,yv1l⟩:=c3_of (keepq hkv1 Q3.out))|(go_at_call 50;(with_reducible refine (HK.out _ (keep_trans HB3.out (by (repeat (first|assumption|exact Below.refl _ _|refine keep_drew ?_|refine keep_alloc ?_ _|refine keep_trans ?_ (by assumption)))))).mono ?_);rintro _ v2 ⟨rfl,hbv2⟩;have hkv2:Below V3.heap.size V3 v2:=(by (repeat (first|assumption|exact Below.refl _ _|refine keep_drew ?_|refine keep_alloc ?_ _|refine keep_trans ?_ (by assumption))));obtain ⟨xv20,xv21,xv22,xv2l⟩:=c3_of (keepq hkv2 Q1.out);obtain ⟨yv20,yv21,yv22,yv2l⟩:=c3_of (keepq hkv2 Q3.out))|(go_at_call 22;(with_reducible refine (HA.out _ (keep_trans HB3.out (by (repeat (first|assumption|exact Below.refl _ _|refine keep_drew ?_|refine keep_alloc ?_ _|refine keep_trans ?_ (by assumption)))))).mono ?_);rintro _ v3 ⟨rfl,hbv3⟩;have hkv3:Below V3.heap.size V3 v3:=(by (repeat (first|assumption|exact Below.refl _ _|refine keep_drew ?_|refine keep_alloc ?_ _|refine keep_trans ?_ (by assumption))));obtain ⟨xv30,xv31,xv32,xv3l⟩:=c3_of (keepq hkv3 Q1.out);obtain ⟨yv30,yv31,yv32,yv3l⟩:=c3_of (keepq hkv3 Q3.out))|(go_at_call 24;refine (HC.out _ (by (repeat (first|assumption|exact Below.refl _ _|refine keep_drew ?_|refine keep_alloc ?_ _|refine keep_trans ?_ (by assumption))))).mono ?_;rintro _ v8 ⟨rfl,hbv8⟩)|(go_at_call 20;refine (awake4_c _).mono ?_;rintro _ wz ⟨rfl,hbz⟩)|fail)
 refine bodyPost_ret (v := .bool true) ?_ rfl ⟨rfl,keep_trans HB3.out (show Below V3.heap.size V3 wz by (repeat (first|assumption|exact Below.refl _ _|refine keep_drew ?_|refine keep_alloc ?_ _|refine keep_trans ?_ (by assumption))))⟩
 simp[results,Tryz.f10,go_sem]
theorem ldeltas_n0 (r C:Int) (a:Option Addr) (n c:Nat) (d:Int) (w:World) (hg0:¬300<n) (X:List Int) (gn:Nat)
  (HD:∀W,Below w.heap.size w W→Calls Tryz.prog 48 #[.agg #[.int .i64 r,.int .i64 C,.slice a n c]] W fun e w'=>∃a2 c2,e = .returned (.tuple #[.agg #[.int .i64 r,.int .i64 C,.slice a2 gn c2],.int .i64 0])∧IC w' a2 gn X∧Below W.heap.size W w')
  (HE:∀W,Below w.heap.size w W→Calls Tryz.prog 49 #[.agg #[.int .i64 r,.int .i64 C,.slice a n c]] W fun e w'=>e = .returned (.tuple #[.int .i64 0,.int .i64 7])∧Below W.heap.size W w')
  (HK:∀W,Below w.heap.size w W→Calls Tryz.prog 50 #[.agg #[.int .i64 r,.int .i64 C,.slice a n c],.int .i64 d] W fun e w'=>e = .returned (.int .i64 19)∧Below W.heap.size W w')
  (HA:∀W,Below w.heap.size w W→Calls Tryz.prog 22 #[.agg #[.int .i64 r,.int .i64 C,.slice a n c]] W fun e w'=>e = .returned (.int .i64 0)∧Below W.heap.size W w')
  (HF:∀W,Below w.heap.size w W→Calls Tryz.prog 51 #[.agg #[.int .i64 r,.int .i64 C,.slice a n c],.int .i64 d] W fun e w'=>e = .returned (.bool false)∧Below W.heap.size W w')
  (HG:∀W,Below w.heap.size w W→Calls Tryz.prog 52 #[.agg #[.int .i64 r,.int .i64 C,.slice a n c]] W fun e w'=>∃a3 c3,e = .returned (.agg #[.int .i64 r,.int .i64 C,.slice a3 gn c3])∧IC w' a3 gn X∧Below W.heap.size W w')
  (HH:∀W,Below w.heap.size w W→Calls Tryz.prog 53 #[.agg #[.int .i64 r,.int .i64 C,.slice a n c]] W fun e w'=>e = .returned (.int .i64 0)∧Below W.heap.size W w')
  : Calls Tryz.prog 10 #[.agg #[.int .i64 r,.int .i64 C,.slice a n c],.int .i64 d] w fun e w'=>e = .returned (.bool true)∧Below w.heap.size w w':=by
 have hgI0:decide ((300:Int)<(n:Int))=false:=decide_eq_false (by omega)
 have HD:=Lib.hid HD
 have HE:=Lib.hid HE
 have HK:=Lib.hid HK
 have HA:=Lib.hid HA
 have HF:=Lib.hid HF
 have HG:=Lib.hid HG
 have HH:=Lib.hid HH
 go_enter Tryz.func10,Tryz.ntmps10
 go_upto_region 1 with fail
 have fsz:(w.alloc (.cells #[.int .i64 r,.int .i64 C,.slice a n c] 24)).heap.size=w.heap.size+1:=by simp only[World.size_alloc]
 have fB:Below w.heap.size w (w.alloc (.cells #[.int .i64 r,.int .i64 C,.slice a n c] 24)):=(Below.refl _ _).alloc (Nat.le_refl _) _
 have fq0:(w.alloc (.cells #[.int .i64 r,.int .i64 C,.slice a n c] 24)).heap[w.heap.size]?=some (.cells #[.int .i64 r,.int .i64 C,.slice a n c] 24 (0,0)):=by have h:=World.alloc_heap_new w (.cells #[.int .i64 r,.int .i64 C,.slice a n c] 24);exact h
 generalize (w.alloc (.cells #[.int .i64 r,.int .i64 C,.slice a n c] 24))=W0 at fsz fB fq0 ⊢
 have Q0:=Lib.hid fq0
 have FB:=Lib.hid fB
 obtain ⟨x0,x1,x2,xl⟩:=c3_of fq0
 clear fq0 fsz fB
 go_upto_region 4 with (first|(go_at_call 19;(with_reducible refine (lgreat_c r C a n c 300 _).mono ?_);rintro _ w1 ⟨rfl,hbw1⟩;have hkw1:Below W0.heap.size W0 w1:=(by (repeat (first|assumption|exact Below.refl _ _|refine keep_drew ?_|refine keep_alloc ?_ _|refine keep_trans ?_ (by assumption))));obtain ⟨xw10,xw11,xw12,xw1l⟩:=c3_of (keepq hkw1 Q0.out))|(go_at_call 48;(with_reducible refine (HD.out _ (keep_trans FB.out (by (repeat (first|assumption|exact Below.refl _ _|refine keep_drew ?_|refine keep_alloc ?_ _|refine keep_trans ?_ (by assumption)))))).mono ?_);rintro _ w2 ⟨a2,c2,rfl,hi2,hbw2⟩)|fail)
 have hB2:Below W0.heap.size W0 w2:=by (repeat (first|assumption|exact Below.refl _ _|refine keep_drew ?_|refine keep_alloc ?_ _|refine keep_trans ?_ (by assumption)))
 have gsz:(w2.alloc (.cells #[.int .i64 r,.int .i64 C,.slice a2 gn c2] 24)).heap.size=w2.heap.size+1:=by simp only[World.size_alloc]
 have gB:Below w2.heap.size w2 (w2.alloc (.cells #[.int .i64 r,.int .i64 C,.slice a2 gn c2] 24)):=(Below.refl _ _).alloc (Nat.le_refl _) _
 have gq0:(w2.alloc (.cells #[.int .i64 r,.int .i64 C,.slice a2 gn c2] 24)).heap[w2.heap.size]?=some (.cells #[.int .i64 r,.int .i64 C,.slice a2 gn c2] 24 (0,0)):=by have h:=World.alloc_heap_new w2 (.cells #[.int .i64 r,.int .i64 C,.slice a2 gn c2] 24);exact h
 generalize (w2.alloc (.cells #[.int .i64 r,.int .i64 C,.slice a2 gn c2] 24))=V3 at gsz gB gq0 ⊢
 have Q3:=Lib.hid gq0
 have Q1:=Lib.hid (keepq (keep_trans hB2 gB) Q0.out)
 have HB3:=Lib.hid (keep_trans FB.out (keep_trans hB2 gB))
 have HI3:=Lib.hid (hi2.mono gB)
 clear gsz gq0 gB hB2 hi2 hbw2 x0 x1 x2 xl xw10 xw11 xw12 xw1l hkw1 hbw1
 obtain ⟨x0,x1,x2,xl⟩:=c3_of Q1.out
 obtain ⟨y0,y1,y2,yl⟩:=c3_of Q3.out
 go_upto_region 12 with (first|(go_at_call 49;(with_reducible refine (HE.out _ (keep_trans HB3.out (by (repeat (first|assumption|exact Below.refl _ _|refine keep_drew ?_|refine keep_alloc ?_ _|refine keep_trans ?_ (by assumption)))))).mono ?_);rintro _ v1 ⟨rfl,hbv1⟩;have hkv1:Below V3.heap.size V3 v1:=(by (repeat (first|assumption|exact Below.refl _ _|refine keep_drew ?_|refine keep_alloc ?_ _|refine keep_trans ?_ (by assumption))));obtain ⟨xv10,xv11,xv12,xv1l⟩:=c3_of (keepq hkv1 Q1.out);obtain ⟨yv10,yv11,yv12,yv1l⟩:=c3_of (keepq hkv1 Q3.out))|(go_at_call 50;(with_reducible refine (HK.out _ (keep_trans HB3.out (by (repeat (first|assumption|exact Below.refl _ _|refine keep_drew ?_|refine keep_alloc ?_ _|refine keep_trans ?_ (by assumption)))))).mono ?_);rintro _ v2 ⟨rfl,hbv2⟩;have hkv2:Below V3.heap.size V3 v2:=(by (repeat (first|assumption|exact Below.refl _ _|refine keep_drew ?_|refine keep_alloc ?_ _|refine keep_trans ?_ (by assumption))));obtain ⟨xv20,xv21,xv22,xv2l⟩:=c3_of (keepq hkv2 Q1.out);obtain ⟨yv20,yv21,yv22,yv2l⟩:=c3_of (keepq hkv2 Q3.out))|(go_at_call 22;(with_reducible refine (HA.out _ (keep_trans HB3.out (by (repeat (first|assumption|exact Below.refl _ _|refine keep_drew ?_|refine keep_alloc ?_ _|refine keep_trans ?_ (by assumption)))))).mono ?_);rintro _ v3 ⟨rfl,hbv3⟩;have hkv3:Below V3.heap.size V3 v3:=(by (repeat (first|assumption|exact Below.refl _ _|refine keep_drew ?_|refine keep_alloc ?_ _|refine keep_trans ?_ (by assumption))));obtain ⟨xv30,xv31,xv32,xv3l⟩:=c3_of (keepq hkv3 Q1.out);obtain ⟨yv30,yv31,yv32,yv3l⟩:=c3_of (keepq hkv3 Q3.out))|(go_at_call 51;(with_reducible refine (HF.out _ (keep_trans HB3.out (by (repeat (first|assumption|exact Below.refl _ _|refine keep_drew ?_|refine keep_alloc ?_ _|refine keep_trans ?_ (by assumption)))))).mono ?_);rintro _ v4 ⟨rfl,hbv4⟩;have hkv4:Below V3.heap.size V3 v4:=(by (repeat (first|assumption|exact Below.refl _ _|refine keep_drew ?_|refine keep_alloc ?_ _|refine keep_trans ?_ (by assumption))));obtain ⟨xv40,xv41,xv42,xv4l⟩:=c3_of (keepq hkv4 Q1.out);obtain ⟨yv40,yv41,yv42,yv4l⟩:=c3_of (keepq hkv4 Q3.out))|fail)
 have hB4:Below V3.heap.size V3 v4:=by (repeat (first|assumption|exact Below.refl _ _|refine keep_drew ?_|refine keep_alloc ?_ _|refine keep_trans ?_ (by assumption)))
 have Q1:=Lib.hid (keepq hB4 Q1.out)
 have Q3:=Lib.hid (keepq hB4 Q3.out)
 have HB4:=Lib.hid (keep_trans HB3.out hB4)
 have HI4:=Lib.hid (HI3.out.mono hB4)
 clear x0 x1 x2 xl y0 y1 y2 yl xv10 xv11 xv12 xv1l yv10 yv11 yv12 yv1l xv20 xv21 xv22 xv2l yv20 yv21 yv22 yv2l xv30 xv31 xv32 xv3l yv30 yv31 yv32 yv3l xv40 xv41 xv42 xv4l yv40 yv41 yv42 yv4l hkv1 hkv2 hkv3 hkv4 hbv1 hbv2 hbv3 hbv4 hB4
 obtain ⟨x0,x1,x2,xl⟩:=c3_of Q1.out
 obtain ⟨y0,y1,y2,yl⟩:=c3_of Q3.out
 have HMD:Hid (madeB r C X 0 r C X 0=true):=by unfold Hid madeB sameG;simp[sameB]
 refine wp_region_S (fun w'=>∃u,w'=over (v4) u) [] [(0,0),(0,1),(0,2),(1,3),(1,4),(0,5),(0,6),(0,7),(0,8),(0,9),(0,10)] (by kernel_rfl) (by kernel_rfl) (by exact ⟨_,below_over (by repeat (first|assumption|exact Below.refl _ _|refine keep_drew ?_|refine keep_alloc ?_ _|refine keep_trans ?_ (by assumption)))⟩) ?_
 dsimp only[pickOps,nthOp]
 repeat (first|(refine wpS_skip rfl (fun K hK=>?_);go_big_quiet_op;refine hK _ ?_;clear hK K)|(refine wpS_quiet rfl rfl (fun K hK=>?_);go_big_quiet_op;refine hK _ ?_;clear hK K)|(refine wpS_loud ?_;go_wp2_with (first|(go_at_call 52;refine (HG.out _ (keep_trans HB4.out (by (repeat (first|assumption|exact Below.refl _ _|refine keep_drew ?_|refine keep_alloc ?_ _|refine keep_trans ?_ (by assumption)))))).mono ?_;rintro _ v5 ⟨a5,c5,rfl,hi5,hbv5⟩)|(go_at_call 24;refine (lmade_v r C a2 gn c2 X 0 r C a5 gn c5 X 0 _ true HMD.out (HI4.out.mono (by (repeat (first|assumption|exact Below.refl _ _|refine keep_drew ?_|refine keep_alloc ?_ _|refine keep_trans ?_ (by assumption))))) hi5).mono ?_;rintro _ v6 ⟨rfl,hbv6⟩)|fail);refine ⟨?_,?_⟩;focus (exact ⟨_,below_over (by repeat (first|assumption|exact Below.refl _ _|refine keep_drew ?_|refine keep_alloc ?_ _|refine keep_trans ?_ (by assumption)))⟩)))
 refine wpS_end ?_
 have hB6:Below v4.heap.size v4 v6:=by (repeat (first|assumption|exact Below.refl _ _|refine keep_drew ?_|refine keep_alloc ?_ _|refine keep_trans ?_ (by assumption)))
 have HB6:=Lib.hid (keep_trans HB4.out hB6)
 clear x0 x1 x2 xl y0 y1 y2 yl
 obtain ⟨x0,x1,x2,xl⟩:=c3_of (keepq hB6 Q1.out)
 clear hB6 hbv5 hbv6 hi5
 go_wp2_with (first|(go_at_call 53;(with_reducible refine (HH.out _ HB6.out).mono ?_);rintro _ v7 ⟨rfl,hbv7⟩)|(go_at_call 20;refine (awake4_c _).mono ?_;rintro _ wz ⟨rfl,hbz⟩)|fail)
 refine bodyPost_ret (v := .bool true) ?_ rfl ⟨rfl,keep_trans HB6.out (show Below v6.heap.size v6 wz by (repeat (first|assumption|exact Below.refl _ _|refine keep_drew ?_|refine keep_alloc ?_ _|refine keep_trans ?_ (by assumption))))⟩
 simp[results,Tryz.f10,go_sem]
theorem ldeltas_s0 (r C:Int) (a:Option Addr) (n c:Nat) (d:Int) (w:World) (hg0:¬300<n) (X:List Int) (gn:Nat) (D:Int) (h0:D≠0)
  (HD:∀W,Below w.heap.size w W→Calls Tryz.prog 48 #[.agg #[.int .i64 r,.int .i64 C,.slice a n c]] W fun e w'=>∃a2 c2,e = .returned (.tuple #[.agg #[.int .i64 r,.int .i64 C,.slice a2 gn c2],.int .i64 0])∧IC w' a2 gn X∧Below W.heap.size W w')
  (HE:∀W,Below w.heap.size w W→Calls Tryz.prog 49 #[.agg #[.int .i64 r,.int .i64 C,.slice a n c]] W fun e w'=>e = .returned (.tuple #[.int .i64 D,.int .i64 0])∧Below W.heap.size W w')
  (HK:∀W,Below w.heap.size w W→Calls Tryz.prog 50 #[.agg #[.int .i64 r,.int .i64 C,.slice a n c],.int .i64 d] W fun e w'=>e = .returned (.int .i64 19)∧Below W.heap.size W w')
  (HA:∀W,Below w.heap.size w W→Calls Tryz.prog 22 #[.agg #[.int .i64 r,.int .i64 C,.slice a n c]] W fun e w'=>e = .returned (.int .i64 0)∧Below W.heap.size W w')
  (HF:∀W,Below w.heap.size w W→Calls Tryz.prog 51 #[.agg #[.int .i64 r,.int .i64 C,.slice a n c],.int .i64 d] W fun e w'=>e = .returned (.bool false)∧Below W.heap.size W w')
  (HG:∀W,Below w.heap.size w W→Calls Tryz.prog 52 #[.agg #[.int .i64 r,.int .i64 C,.slice a n c]] W fun e w'=>∃a3 c3,e = .returned (.agg #[.int .i64 r,.int .i64 C,.slice a3 gn c3])∧IC w' a3 gn X∧Below W.heap.size W w')
  (HH:∀W,Below w.heap.size w W→Calls Tryz.prog 53 #[.agg #[.int .i64 r,.int .i64 C,.slice a n c]] W fun e w'=>e = .returned (.int .i64 D)∧Below W.heap.size W w')
  : Calls Tryz.prog 10 #[.agg #[.int .i64 r,.int .i64 C,.slice a n c],.int .i64 d] w fun e w'=>e = .returned (.bool true)∧Below w.heap.size w w':=by
 have hgI0:decide ((300:Int)<(n:Int))=false:=decide_eq_false (by omega)
 have HD:=Lib.hid HD
 have HE:=Lib.hid HE
 have HK:=Lib.hid HK
 have HA:=Lib.hid HA
 have HF:=Lib.hid HF
 have HG:=Lib.hid HG
 have HH:=Lib.hid HH
 have e1:(D==0)=false:=by simpa using h0
 have e2:(D==D)=true:=by simp
 clear h0
 go_enter Tryz.func10,Tryz.ntmps10
 go_upto_region 1 with fail
 have fsz:(w.alloc (.cells #[.int .i64 r,.int .i64 C,.slice a n c] 24)).heap.size=w.heap.size+1:=by simp only[World.size_alloc]
 have fB:Below w.heap.size w (w.alloc (.cells #[.int .i64 r,.int .i64 C,.slice a n c] 24)):=(Below.refl _ _).alloc (Nat.le_refl _) _
 have fq0:(w.alloc (.cells #[.int .i64 r,.int .i64 C,.slice a n c] 24)).heap[w.heap.size]?=some (.cells #[.int .i64 r,.int .i64 C,.slice a n c] 24 (0,0)):=by have h:=World.alloc_heap_new w (.cells #[.int .i64 r,.int .i64 C,.slice a n c] 24);exact h
 generalize (w.alloc (.cells #[.int .i64 r,.int .i64 C,.slice a n c] 24))=W0 at fsz fB fq0 ⊢
 have Q0:=Lib.hid fq0
 have FB:=Lib.hid fB
 obtain ⟨x0,x1,x2,xl⟩:=c3_of fq0
 clear fq0 fsz fB
 go_upto_region 4 with (first|(go_at_call 19;(with_reducible refine (lgreat_c r C a n c 300 _).mono ?_);rintro _ w1 ⟨rfl,hbw1⟩;have hkw1:Below W0.heap.size W0 w1:=(by (repeat (first|assumption|exact Below.refl _ _|refine keep_drew ?_|refine keep_alloc ?_ _|refine keep_trans ?_ (by assumption))));obtain ⟨xw10,xw11,xw12,xw1l⟩:=c3_of (keepq hkw1 Q0.out))|(go_at_call 48;(with_reducible refine (HD.out _ (keep_trans FB.out (by (repeat (first|assumption|exact Below.refl _ _|refine keep_drew ?_|refine keep_alloc ?_ _|refine keep_trans ?_ (by assumption)))))).mono ?_);rintro _ w2 ⟨a2,c2,rfl,hi2,hbw2⟩)|fail)
 have hB2:Below W0.heap.size W0 w2:=by (repeat (first|assumption|exact Below.refl _ _|refine keep_drew ?_|refine keep_alloc ?_ _|refine keep_trans ?_ (by assumption)))
 have gsz:(w2.alloc (.cells #[.int .i64 r,.int .i64 C,.slice a2 gn c2] 24)).heap.size=w2.heap.size+1:=by simp only[World.size_alloc]
 have gB:Below w2.heap.size w2 (w2.alloc (.cells #[.int .i64 r,.int .i64 C,.slice a2 gn c2] 24)):=(Below.refl _ _).alloc (Nat.le_refl _) _
 have gq0:(w2.alloc (.cells #[.int .i64 r,.int .i64 C,.slice a2 gn c2] 24)).heap[w2.heap.size]?=some (.cells #[.int .i64 r,.int .i64 C,.slice a2 gn c2] 24 (0,0)):=by have h:=World.alloc_heap_new w2 (.cells #[.int .i64 r,.int .i64 C,.slice a2 gn c2] 24);exact h
 generalize (w2.alloc (.cells #[.int .i64 r,.int .i64 C,.slice a2 gn c2] 24))=V3 at gsz gB gq0 ⊢
 have Q3:=Lib.hid gq0
 have Q1:=Lib.hid (keepq (keep_trans hB2 gB) Q0.out)
 have HB3:=Lib.hid (keep_trans FB.out (keep_trans hB2 gB))
 have HI3:=Lib.hid (hi2.mono gB)
 clear gsz gq0 gB hB2 hi2 hbw2 x0 x1 x2 xl xw10 xw11 xw12 xw1l hkw1 hbw1
 obtain ⟨x0,x1,x2,xl⟩:=c3_of Q1.out
 obtain ⟨y0,y1,y2,yl⟩:=c3_of Q3.out
 go_upto_region 12 with (first|(go_at_call 49;(with_reducible refine (HE.out _ (keep_trans HB3.out (by (repeat (first|assumption|exact Below.refl _ _|refine keep_drew ?_|refine keep_alloc ?_ _|refine keep_trans ?_ (by assumption)))))).mono ?_);rintro _ v1 ⟨rfl,hbv1⟩;have hkv1:Below V3.heap.size V3 v1:=(by (repeat (first|assumption|exact Below.refl _ _|refine keep_drew ?_|refine keep_alloc ?_ _|refine keep_trans ?_ (by assumption))));obtain ⟨xv10,xv11,xv12,xv1l⟩:=c3_of (keepq hkv1 Q1.out);obtain ⟨yv10,yv11,yv12,yv1l⟩:=c3_of (keepq hkv1 Q3.out))|(go_at_call 50;(with_reducible refine (HK.out _ (keep_trans HB3.out (by (repeat (first|assumption|exact Below.refl _ _|refine keep_drew ?_|refine keep_alloc ?_ _|refine keep_trans ?_ (by assumption)))))).mono ?_);rintro _ v2 ⟨rfl,hbv2⟩;have hkv2:Below V3.heap.size V3 v2:=(by (repeat (first|assumption|exact Below.refl _ _|refine keep_drew ?_|refine keep_alloc ?_ _|refine keep_trans ?_ (by assumption))));obtain ⟨xv20,xv21,xv22,xv2l⟩:=c3_of (keepq hkv2 Q1.out);obtain ⟨yv20,yv21,yv22,yv2l⟩:=c3_of (keepq hkv2 Q3.out))|(go_at_call 22;(with_reducible refine (HA.out _ (keep_trans HB3.out (by (repeat (first|assumption|exact Below.refl _ _|refine keep_drew ?_|refine keep_alloc ?_ _|refine keep_trans ?_ (by assumption)))))).mono ?_);rintro _ v3 ⟨rfl,hbv3⟩;have hkv3:Below V3.heap.size V3 v3:=(by (repeat (first|assumption|exact Below.refl _ _|refine keep_drew ?_|refine keep_alloc ?_ _|refine keep_trans ?_ (by assumption))));obtain ⟨xv30,xv31,xv32,xv3l⟩:=c3_of (keepq hkv3 Q1.out);obtain ⟨yv30,yv31,yv32,yv3l⟩:=c3_of (keepq hkv3 Q3.out))|(go_at_call 51;(with_reducible refine (HF.out _ (keep_trans HB3.out (by (repeat (first|assumption|exact Below.refl _ _|refine keep_drew ?_|refine keep_alloc ?_ _|refine keep_trans ?_ (by assumption)))))).mono ?_);rintro _ v4 ⟨rfl,hbv4⟩;have hkv4:Below V3.heap.size V3 v4:=(by (repeat (first|assumption|exact Below.refl _ _|refine keep_drew ?_|refine keep_alloc ?_ _|refine keep_trans ?_ (by assumption))));obtain ⟨xv40,xv41,xv42,xv4l⟩:=c3_of (keepq hkv4 Q1.out);obtain ⟨yv40,yv41,yv42,yv4l⟩:=c3_of (keepq hkv4 Q3.out))|fail)
 have hB4:Below V3.heap.size V3 v4:=by (repeat (first|assumption|exact Below.refl _ _|refine keep_drew ?_|refine keep_alloc ?_ _|refine keep_trans ?_ (by assumption)))
 have Q1:=Lib.hid (keepq hB4 Q1.out)
 have Q3:=Lib.hid (keepq hB4 Q3.out)
 have HB4:=Lib.hid (keep_trans HB3.out hB4)
 have HI4:=Lib.hid (HI3.out.mono hB4)
 clear x0 x1 x2 xl y0 y1 y2 yl xv10 xv11 xv12 xv1l yv10 yv11 yv12 yv1l xv20 xv21 xv22 xv2l yv20 yv21 yv22 yv2l xv30 xv31 xv32 xv3l yv30 yv31 yv32 yv3l xv40 xv41 xv42 xv4l yv40 yv41 yv42 yv4l hkv1 hkv2 hkv3 hkv4 hbv1 hbv2 hbv3 hbv4 hB4
 obtain ⟨x0,x1,x2,xl⟩:=c3_of Q1.out
 obtain ⟨y0,y1,y2,yl⟩:=c3_of Q3.out
 have HMD:Hid (madeB r C X 0 r C X 0=true):=by unfold Hid madeB sameG;simp[sameB]
 refine wp_region_S (fun w'=>∃u,w'=over (v4) u) [] [(0,0),(0,1),(0,2),(1,3),(1,4),(0,5),(0,6),(0,7),(0,8),(0,9),(0,10)] (by kernel_rfl) (by kernel_rfl) (by exact ⟨_,below_over (by repeat (first|assumption|exact Below.refl _ _|refine keep_drew ?_|refine keep_alloc ?_ _|refine keep_trans ?_ (by assumption)))⟩) ?_
 dsimp only[pickOps,nthOp]
 repeat (first|(refine wpS_skip rfl (fun K hK=>?_);go_big_quiet_op;refine hK _ ?_;clear hK K)|(refine wpS_quiet rfl rfl (fun K hK=>?_);go_big_quiet_op;refine hK _ ?_;clear hK K)|(refine wpS_loud ?_;go_wp2_with (first|(go_at_call 52;refine (HG.out _ (keep_trans HB4.out (by (repeat (first|assumption|exact Below.refl _ _|refine keep_drew ?_|refine keep_alloc ?_ _|refine keep_trans ?_ (by assumption)))))).mono ?_;rintro _ v5 ⟨a5,c5,rfl,hi5,hbv5⟩)|(go_at_call 24;refine (lmade_v r C a2 gn c2 X 0 r C a5 gn c5 X 0 _ true HMD.out (HI4.out.mono (by (repeat (first|assumption|exact Below.refl _ _|refine keep_drew ?_|refine keep_alloc ?_ _|refine keep_trans ?_ (by assumption))))) hi5).mono ?_;rintro _ v6 ⟨rfl,hbv6⟩)|fail);refine ⟨?_,?_⟩;focus (exact ⟨_,below_over (by repeat (first|assumption|exact Below.refl _ _|refine keep_drew ?_|refine keep_alloc ?_ _|refine keep_trans ?_ (by assumption)))⟩)))
 refine wpS_end ?_
 have hB6:Below v4.heap.size v4 v6:=by (repeat (first|assumption|exact Below.refl _ _|refine keep_drew ?_|refine keep_alloc ?_ _|refine keep_trans ?_ (by assumption)))
 have HB6:=Lib.hid (keep_trans HB4.out hB6)
 clear x0 x1 x2 xl y0 y1 y2 yl
 obtain ⟨x0,x1,x2,xl⟩:=c3_of (keepq hB6 Q1.out)
 clear hB6 hbv5 hbv6 hi5
 go_wp2_with (first|(go_at_call 53;(with_reducible refine (HH.out _ HB6.out).mono ?_);rintro _ v7 ⟨rfl,hbv7⟩)|(go_at_call 20;refine (awake4_c _).mono ?_;rintro _ wz ⟨rfl,hbz⟩)|fail)
 refine bodyPost_ret (v := .bool true) ?_ rfl ⟨rfl,keep_trans HB6.out (show Below v6.heap.size v6 wz by (repeat (first|assumption|exact Below.refl _ _|refine keep_drew ?_|refine keep_alloc ?_ _|refine keep_trans ?_ (by assumption))))⟩
 simp[results,Tryz.f10,go_sem]
theorem ldeltas_n1 (r C:Int) (a:Option Addr) (n c:Nat) (d:Int) (w:World) (hg0:¬300<n) (X:List Int) (gn:Nat)
  (HD:∀W,Below w.heap.size w W→Calls Tryz.prog 48 #[.agg #[.int .i64 r,.int .i64 C,.slice a n c]] W fun e w'=>∃a2 c2,e = .returned (.tuple #[.agg #[.int .i64 r,.int .i64 C,.slice a2 gn c2],.int .i64 0])∧IC w' a2 gn X∧Below W.heap.size W w')
  (HE:∀W,Below w.heap.size w W→Calls Tryz.prog 49 #[.agg #[.int .i64 r,.int .i64 C,.slice a n c]] W fun e w'=>e = .returned (.tuple #[.int .i64 0,.int .i64 7])∧Below W.heap.size W w')
  (HK:∀W,Below w.heap.size w W→Calls Tryz.prog 50 #[.agg #[.int .i64 r,.int .i64 C,.slice a n c],.int .i64 d] W fun e w'=>e = .returned (.int .i64 0)∧Below W.heap.size W w')
  (HA:∀W,Below w.heap.size w W→Calls Tryz.prog 22 #[.agg #[.int .i64 r,.int .i64 C,.slice a n c]] W fun e w'=>e = .returned (.int .i64 0)∧Below W.heap.size W w')
  (HF:∀W,Below w.heap.size w W→Calls Tryz.prog 51 #[.agg #[.int .i64 r,.int .i64 C,.slice a n c],.int .i64 d] W fun e w'=>e = .returned (.bool true)∧Below W.heap.size W w')
  (HG:∀W,Below w.heap.size w W→Calls Tryz.prog 52 #[.agg #[.int .i64 r,.int .i64 C,.slice a n c]] W fun e w'=>∃a3 c3,e = .returned (.agg #[.int .i64 r,.int .i64 C,.slice a3 gn c3])∧IC w' a3 gn X∧Below W.heap.size W w')
  (HH:∀W,Below w.heap.size w W→Calls Tryz.prog 53 #[.agg #[.int .i64 r,.int .i64 C,.slice a n c]] W fun e w'=>e = .returned (.int .i64 0)∧Below W.heap.size W w')
  : Calls Tryz.prog 10 #[.agg #[.int .i64 r,.int .i64 C,.slice a n c],.int .i64 d] w fun e w'=>e = .returned (.bool true)∧Below w.heap.size w w':=by
 have hgI0:decide ((300:Int)<(n:Int))=false:=decide_eq_false (by omega)
 have HD:=Lib.hid HD
 have HE:=Lib.hid HE
 have HK:=Lib.hid HK
 have HA:=Lib.hid HA
 have HF:=Lib.hid HF
 have HG:=Lib.hid HG
 have HH:=Lib.hid HH
 go_enter Tryz.func10,Tryz.ntmps10
 go_upto_region 1 with fail
 have fsz:(w.alloc (.cells #[.int .i64 r,.int .i64 C,.slice a n c] 24)).heap.size=w.heap.size+1:=by simp only[World.size_alloc]
 have fB:Below w.heap.size w (w.alloc (.cells #[.int .i64 r,.int .i64 C,.slice a n c] 24)):=(Below.refl _ _).alloc (Nat.le_refl _) _
 have fq0:(w.alloc (.cells #[.int .i64 r,.int .i64 C,.slice a n c] 24)).heap[w.heap.size]?=some (.cells #[.int .i64 r,.int .i64 C,.slice a n c] 24 (0,0)):=by have h:=World.alloc_heap_new w (.cells #[.int .i64 r,.int .i64 C,.slice a n c] 24);exact h
 generalize (w.alloc (.cells #[.int .i64 r,.int .i64 C,.slice a n c] 24))=W0 at fsz fB fq0 ⊢
 have Q0:=Lib.hid fq0
 have FB:=Lib.hid fB
 obtain ⟨x0,x1,x2,xl⟩:=c3_of fq0
 clear fq0 fsz fB
 go_upto_region 4 with (first|(go_at_call 19;(with_reducible refine (lgreat_c r C a n c 300 _).mono ?_);rintro _ w1 ⟨rfl,hbw1⟩;have hkw1:Below W0.heap.size W0 w1:=(by (repeat (first|assumption|exact Below.refl _ _|refine keep_drew ?_|refine keep_alloc ?_ _|refine keep_trans ?_ (by assumption))));obtain ⟨xw10,xw11,xw12,xw1l⟩:=c3_of (keepq hkw1 Q0.out))|(go_at_call 48;(with_reducible refine (HD.out _ (keep_trans FB.out (by (repeat (first|assumption|exact Below.refl _ _|refine keep_drew ?_|refine keep_alloc ?_ _|refine keep_trans ?_ (by assumption)))))).mono ?_);rintro _ w2 ⟨a2,c2,rfl,hi2,hbw2⟩)|fail)
 have hB2:Below W0.heap.size W0 w2:=by (repeat (first|assumption|exact Below.refl _ _|refine keep_drew ?_|refine keep_alloc ?_ _|refine keep_trans ?_ (by assumption)))
 have gsz:(w2.alloc (.cells #[.int .i64 r,.int .i64 C,.slice a2 gn c2] 24)).heap.size=w2.heap.size+1:=by simp only[World.size_alloc]
 have gB:Below w2.heap.size w2 (w2.alloc (.cells #[.int .i64 r,.int .i64 C,.slice a2 gn c2] 24)):=(Below.refl _ _).alloc (Nat.le_refl _) _
 have gq0:(w2.alloc (.cells #[.int .i64 r,.int .i64 C,.slice a2 gn c2] 24)).heap[w2.heap.size]?=some (.cells #[.int .i64 r,.int .i64 C,.slice a2 gn c2] 24 (0,0)):=by have h:=World.alloc_heap_new w2 (.cells #[.int .i64 r,.int .i64 C,.slice a2 gn c2] 24);exact h
 generalize (w2.alloc (.cells #[.int .i64 r,.int .i64 C,.slice a2 gn c2] 24))=V3 at gsz gB gq0 ⊢
 have Q3:=Lib.hid gq0
 have Q1:=Lib.hid (keepq (keep_trans hB2 gB) Q0.out)
 have HB3:=Lib.hid (keep_trans FB.out (keep_trans hB2 gB))
 have HI3:=Lib.hid (hi2.mono gB)
 clear gsz gq0 gB hB2 hi2 hbw2 x0 x1 x2 xl xw10 xw11 xw12 xw1l hkw1 hbw1
 obtain ⟨x0,x1,x2,xl⟩:=c3_of Q1.out
 obtain ⟨y0,y1,y2,yl⟩:=c3_of Q3.out
 go_upto_region 12 with (first|(go_at_call 49;(with_reducible refine (HE.out _ (keep_trans HB3.out (by (repeat (first|assumption|exact Below.refl _ _|refine keep_drew ?_|refine keep_alloc ?_ _|refine keep_trans ?_ (by assumption)))))).mono ?_);rintro _ v1 ⟨rfl,hbv1⟩;have hkv1:Below V3.heap.size V3 v1:=(by (repeat (first|assumption|exact Below.refl _ _|refine keep_drew ?_|refine keep_alloc ?_ _|refine keep_trans ?_ (by assumption))));obtain ⟨xv10,xv11,xv12,xv1l⟩:=c3_of (keepq hkv1 Q1.out);obtain ⟨yv10,yv11,yv12,yv1l⟩:=c3_of (keepq hkv1 Q3.out))|(go_at_call 50;(with_reducible refine (HK.out _ (keep_trans HB3.out (by (repeat (first|assumption|exact Below.refl _ _|refine keep_drew ?_|refine keep_alloc ?_ _|refine keep_trans ?_ (by assumption)))))).mono ?_);rintro _ v2 ⟨rfl,hbv2⟩;have hkv2:Below V3.heap.size V3 v2:=(by (repeat (first|assumption|exact Below.refl _ _|refine keep_drew ?_|refine keep_alloc ?_ _|refine keep_trans ?_ (by assumption))));obtain ⟨xv20,xv21,xv22,xv2l⟩:=c3_of (keepq hkv2 Q1.out);obtain ⟨yv20,yv21,yv22,yv2l⟩:=c3_of (keepq hkv2 Q3.out))|(go_at_call 22;(with_reducible refine (HA.out _ (keep_trans HB3.out (by (repeat (first|assumption|exact Below.refl _ _|refine keep_drew ?_|refine keep_alloc ?_ _|refine keep_trans ?_ (by assumption)))))).mono ?_);rintro _ v3 ⟨rfl,hbv3⟩;have hkv3:Below V3.heap.size V3 v3:=(by (repeat (first|assumption|exact Below.refl _ _|refine keep_drew ?_|refine keep_alloc ?_ _|refine keep_trans ?_ (by assumption))));obtain ⟨xv30,xv31,xv32,xv3l⟩:=c3_of (keepq hkv3 Q1.out);obtain ⟨yv30,yv31,yv32,yv3l⟩:=c3_of (keepq hkv3 Q3.out))|(go_at_call 51;(with_reducible refine (HF.out _ (keep_trans HB3.out (by (repeat (first|assumption|exact Below.refl _ _|refine keep_drew ?_|refine keep_alloc ?_ _|refine keep_trans ?_ (by assumption)))))).mono ?_);rintro _ v4 ⟨rfl,hbv4⟩;have hkv4:Below V3.heap.size V3 v4:=(by (repeat (first|assumption|exact Below.refl _ _|refine keep_drew ?_|refine keep_alloc ?_ _|refine keep_trans ?_ (by assumption))));obtain ⟨xv40,xv41,xv42,xv4l⟩:=c3_of (keepq hkv4 Q1.out);obtain ⟨yv40,yv41,yv42,yv4l⟩:=c3_of (keepq hkv4 Q3.out))|fail)
 have hB4:Below V3.heap.size V3 v4:=by (repeat (first|assumption|exact Below.refl _ _|refine keep_drew ?_|refine keep_alloc ?_ _|refine keep_trans ?_ (by assumption)))
 have Q1:=Lib.hid (keepq hB4 Q1.out)
 have Q3:=Lib.hid (keepq hB4 Q3.out)
 have HB4:=Lib.hid (keep_trans HB3.out hB4)
 have HI4:=Lib.hid (HI3.out.mono hB4)
 clear x0 x1 x2 xl y0 y1 y2 yl xv10 xv11 xv12 xv1l yv10 yv11 yv12 yv1l xv20 xv21 xv22 xv2l yv20 yv21 yv22 yv2l xv30 xv31 xv32 xv3l yv30 yv31 yv32 yv3l xv40 xv41 xv42 xv4l yv40 yv41 yv42 yv4l hkv1 hkv2 hkv3 hkv4 hbv1 hbv2 hbv3 hbv4 hB4
 obtain ⟨x0,x1,x2,xl⟩:=c3_of Q1.out
 obtain ⟨y0,y1,y2,yl⟩:=c3_of Q3.out
 have HMD:Hid (madeB r C X 0 r C X 0=true):=by unfold Hid madeB sameG;simp[sameB]
 refine wp_region_S (fun w'=>∃u,w'=over (v4) u) [] [(0,0),(0,1),(0,2),(1,3),(1,4),(0,5),(0,6),(0,7),(0,8),(0,9),(0,10)] (by kernel_rfl) (by kernel_rfl) (by exact ⟨_,below_over (by repeat (first|assumption|exact Below.refl _ _|refine keep_drew ?_|refine keep_alloc ?_ _|refine keep_trans ?_ (by assumption)))⟩) ?_
 dsimp only[pickOps,nthOp]
 repeat (first|(refine wpS_skip rfl (fun K hK=>?_);go_big_quiet_op;refine hK _ ?_;clear hK K)|(refine wpS_quiet rfl rfl (fun K hK=>?_);go_big_quiet_op;refine hK _ ?_;clear hK K)|(refine wpS_loud ?_;go_wp2_with (first|(go_at_call 52;refine (HG.out _ (keep_trans HB4.out (by (repeat (first|assumption|exact Below.refl _ _|refine keep_drew ?_|refine keep_alloc ?_ _|refine keep_trans ?_ (by assumption)))))).mono ?_;rintro _ v5 ⟨a5,c5,rfl,hi5,hbv5⟩)|(go_at_call 24;refine (lmade_v r C a2 gn c2 X 0 r C a5 gn c5 X 0 _ true HMD.out (HI4.out.mono (by (repeat (first|assumption|exact Below.refl _ _|refine keep_drew ?_|refine keep_alloc ?_ _|refine keep_trans ?_ (by assumption))))) hi5).mono ?_;rintro _ v6 ⟨rfl,hbv6⟩)|fail);refine ⟨?_,?_⟩;focus (exact ⟨_,below_over (by repeat (first|assumption|exact Below.refl _ _|refine keep_drew ?_|refine keep_alloc ?_ _|refine keep_trans ?_ (by assumption)))⟩)))
 refine wpS_end ?_
 have hB6:Below v4.heap.size v4 v6:=by (repeat (first|assumption|exact Below.refl _ _|refine keep_drew ?_|refine keep_alloc ?_ _|refine keep_trans ?_ (by assumption)))
 have HB6:=Lib.hid (keep_trans HB4.out hB6)
 clear x0 x1 x2 xl y0 y1 y2 yl
 obtain ⟨x0,x1,x2,xl⟩:=c3_of (keepq hB6 Q1.out)
 clear hB6 hbv5 hbv6 hi5
 go_wp2_with (first|(go_at_call 53;(with_reducible refine (HH.out _ HB6.out).mono ?_);rintro _ v7 ⟨rfl,hbv7⟩)|(go_at_call 20;refine (awake4_c _).mono ?_;rintro _ wz ⟨rfl,hbz⟩)|fail)
 refine bodyPost_ret (v := .bool true) ?_ rfl ⟨rfl,keep_trans HB6.out (show Below v6.heap.size v6 wz by (repeat (first|assumption|exact Below.refl _ _|refine keep_drew ?_|refine keep_alloc ?_ _|refine keep_trans ?_ (by assumption))))⟩
 simp[results,Tryz.f10,go_sem]
theorem ldeltas_s1 (r C:Int) (a:Option Addr) (n c:Nat) (d:Int) (w:World) (hg0:¬300<n) (X:List Int) (gn:Nat) (D:Int) (h0:D≠0)
  (HD:∀W,Below w.heap.size w W→Calls Tryz.prog 48 #[.agg #[.int .i64 r,.int .i64 C,.slice a n c]] W fun e w'=>∃a2 c2,e = .returned (.tuple #[.agg #[.int .i64 r,.int .i64 C,.slice a2 gn c2],.int .i64 0])∧IC w' a2 gn X∧Below W.heap.size W w')
  (HE:∀W,Below w.heap.size w W→Calls Tryz.prog 49 #[.agg #[.int .i64 r,.int .i64 C,.slice a n c]] W fun e w'=>e = .returned (.tuple #[.int .i64 D,.int .i64 0])∧Below W.heap.size W w')
  (HK:∀W,Below w.heap.size w W→Calls Tryz.prog 50 #[.agg #[.int .i64 r,.int .i64 C,.slice a n c],.int .i64 d] W fun e w'=>e = .returned (.int .i64 0)∧Below W.heap.size W w')
  (HA:∀W,Below w.heap.size w W→Calls Tryz.prog 22 #[.agg #[.int .i64 r,.int .i64 C,.slice a n c]] W fun e w'=>e = .returned (.int .i64 0)∧Below W.heap.size W w')
  (HF:∀W,Below w.heap.size w W→Calls Tryz.prog 51 #[.agg #[.int .i64 r,.int .i64 C,.slice a n c],.int .i64 d] W fun e w'=>e = .returned (.bool true)∧Below W.heap.size W w')
  (HG:∀W,Below w.heap.size w W→Calls Tryz.prog 52 #[.agg #[.int .i64 r,.int .i64 C,.slice a n c]] W fun e w'=>∃a3 c3,e = .returned (.agg #[.int .i64 r,.int .i64 C,.slice a3 gn c3])∧IC w' a3 gn X∧Below W.heap.size W w')
  (HH:∀W,Below w.heap.size w W→Calls Tryz.prog 53 #[.agg #[.int .i64 r,.int .i64 C,.slice a n c]] W fun e w'=>e = .returned (.int .i64 D)∧Below W.heap.size W w')
  : Calls Tryz.prog 10 #[.agg #[.int .i64 r,.int .i64 C,.slice a n c],.int .i64 d] w fun e w'=>e = .returned (.bool true)∧Below w.heap.size w w':=by
 have hgI0:decide ((300:Int)<(n:Int))=false:=decide_eq_false (by omega)
 have HD:=Lib.hid HD
 have HE:=Lib.hid HE
 have HK:=Lib.hid HK
 have HA:=Lib.hid HA
 have HF:=Lib.hid HF
 have HG:=Lib.hid HG
 have HH:=Lib.hid HH
 have e1:(D==0)=false:=by simpa using h0
 have e2:(D==D)=true:=by simp
 clear h0
 go_enter Tryz.func10,Tryz.ntmps10
 go_upto_region 1 with fail
 have fsz:(w.alloc (.cells #[.int .i64 r,.int .i64 C,.slice a n c] 24)).heap.size=w.heap.size+1:=by simp only[World.size_alloc]
 have fB:Below w.heap.size w (w.alloc (.cells #[.int .i64 r,.int .i64 C,.slice a n c] 24)):=(Below.refl _ _).alloc (Nat.le_refl _) _
 have fq0:(w.alloc (.cells #[.int .i64 r,.int .i64 C,.slice a n c] 24)).heap[w.heap.size]?=some (.cells #[.int .i64 r,.int .i64 C,.slice a n c] 24 (0,0)):=by have h:=World.alloc_heap_new w (.cells #[.int .i64 r,.int .i64 C,.slice a n c] 24);exact h
 generalize (w.alloc (.cells #[.int .i64 r,.int .i64 C,.slice a n c] 24))=W0 at fsz fB fq0 ⊢
 have Q0:=Lib.hid fq0
 have FB:=Lib.hid fB
 obtain ⟨x0,x1,x2,xl⟩:=c3_of fq0
 clear fq0 fsz fB
 go_upto_region 4 with (first|(go_at_call 19;(with_reducible refine (lgreat_c r C a n c 300 _).mono ?_);rintro _ w1 ⟨rfl,hbw1⟩;have hkw1:Below W0.heap.size W0 w1:=(by (repeat (first|assumption|exact Below.refl _ _|refine keep_drew ?_|refine keep_alloc ?_ _|refine keep_trans ?_ (by assumption))));obtain ⟨xw10,xw11,xw12,xw1l⟩:=c3_of (keepq hkw1 Q0.out))|(go_at_call 48;(with_reducible refine (HD.out _ (keep_trans FB.out (by (repeat (first|assumption|exact Below.refl _ _|refine keep_drew ?_|refine keep_alloc ?_ _|refine keep_trans ?_ (by assumption)))))).mono ?_);rintro _ w2 ⟨a2,c2,rfl,hi2,hbw2⟩)|fail)
 have hB2:Below W0.heap.size W0 w2:=by (repeat (first|assumption|exact Below.refl _ _|refine keep_drew ?_|refine keep_alloc ?_ _|refine keep_trans ?_ (by assumption)))
 have gsz:(w2.alloc (.cells #[.int .i64 r,.int .i64 C,.slice a2 gn c2] 24)).heap.size=w2.heap.size+1:=by simp only[World.size_alloc]
 have gB:Below w2.heap.size w2 (w2.alloc (.cells #[.int .i64 r,.int .i64 C,.slice a2 gn c2] 24)):=(Below.refl _ _).alloc (Nat.le_refl _) _
 have gq0:(w2.alloc (.cells #[.int .i64 r,.int .i64 C,.slice a2 gn c2] 24)).heap[w2.heap.size]?=some (.cells #[.int .i64 r,.int .i64 C,.slice a2 gn c2] 24 (0,0)):=by have h:=World.alloc_heap_new w2 (.cells #[.int .i64 r,.int .i64 C,.slice a2 gn c2] 24);exact h
 generalize (w2.alloc (.cells #[.int .i64 r,.int .i64 C,.slice a2 gn c2] 24))=V3 at gsz gB gq0 ⊢
 have Q3:=Lib.hid gq0
 have Q1:=Lib.hid (keepq (keep_trans hB2 gB) Q0.out)
 have HB3:=Lib.hid (keep_trans FB.out (keep_trans hB2 gB))
 have HI3:=Lib.hid (hi2.mono gB)
 clear gsz gq0 gB hB2 hi2 hbw2 x0 x1 x2 xl xw10 xw11 xw12 xw1l hkw1 hbw1
 obtain ⟨x0,x1,x2,xl⟩:=c3_of Q1.out
 obtain ⟨y0,y1,y2,yl⟩:=c3_of Q3.out
 go_upto_region 12 with (first|(go_at_call 49;(with_reducible refine (HE.out _ (keep_trans HB3.out (by (repeat (first|assumption|exact Below.refl _ _|refine keep_drew ?_|refine keep_alloc ?_ _|refine keep_trans ?_ (by assumption)))))).mono ?_);rintro _ v1 ⟨rfl,hbv1⟩;have hkv1:Below V3.heap.size V3 v1:=(by (repeat (first|assumption|exact Below.refl _ _|refine keep_drew ?_|refine keep_alloc ?_ _|refine keep_trans ?_ (by assumption))));obtain ⟨xv10,xv11,xv12,xv1l⟩:=c3_of (keepq hkv1 Q1.out);obtain ⟨yv10,yv11,yv12,yv1l⟩:=c3_of (keepq hkv1 Q3.out))|(go_at_call 50;(with_reducible refine (HK.out _ (keep_trans HB3.out (by (repeat (first|assumption|exact Below.refl _ _|refine keep_drew ?_|refine keep_alloc ?_ _|refine keep_trans ?_ (by assumption)))))).mono ?_);rintro _ v2 ⟨rfl,hbv2⟩;have hkv2:Below V3.heap.size V3 v2:=(by (repeat (first|assumption|exact Below.refl _ _|refine keep_drew ?_|refine keep_alloc ?_ _|refine keep_trans ?_ (by assumption))));obtain ⟨xv20,xv21,xv22,xv2l⟩:=c3_of (keepq hkv2 Q1.out);obtain ⟨yv20,yv21,yv22,yv2l⟩:=c3_of (keepq hkv2 Q3.out))|(go_at_call 22;(with_reducible refine (HA.out _ (keep_trans HB3.out (by (repeat (first|assumption|exact Below.refl _ _|refine keep_drew ?_|refine keep_alloc ?_ _|refine keep_trans ?_ (by assumption)))))).mono ?_);rintro _ v3 ⟨rfl,hbv3⟩;have hkv3:Below V3.heap.size V3 v3:=(by (repeat (first|assumption|exact Below.refl _ _|refine keep_drew ?_|refine keep_alloc ?_ _|refine keep_trans ?_ (by assumption))));obtain ⟨xv30,xv31,xv32,xv3l⟩:=c3_of (keepq hkv3 Q1.out);obtain ⟨yv30,yv31,yv32,yv3l⟩:=c3_of (keepq hkv3 Q3.out))|(go_at_call 51;(with_reducible refine (HF.out _ (keep_trans HB3.out (by (repeat (first|assumption|exact Below.refl _ _|refine keep_drew ?_|refine keep_alloc ?_ _|refine keep_trans ?_ (by assumption)))))).mono ?_);rintro _ v4 ⟨rfl,hbv4⟩;have hkv4:Below V3.heap.size V3 v4:=(by (repeat (first|assumption|exact Below.refl _ _|refine keep_drew ?_|refine keep_alloc ?_ _|refine keep_trans ?_ (by assumption))));obtain ⟨xv40,xv41,xv42,xv4l⟩:=c3_of (keepq hkv4 Q1.out);obtain ⟨yv40,yv41,yv42,yv4l⟩:=c3_of (keepq hkv4 Q3.out))|fail)
 have hB4:Below V3.heap.size V3 v4:=by (repeat (first|assumption|exact Below.refl _ _|refine keep_drew ?_|refine keep_alloc ?_ _|refine keep_trans ?_ (by assumption)))
 have Q1:=Lib.hid (keepq hB4 Q1.out)
 have Q3:=Lib.hid (keepq hB4 Q3.out)
 have HB4:=Lib.hid (keep_trans HB3.out hB4)
 have HI4:=Lib.hid (HI3.out.mono hB4)
 clear x0 x1 x2 xl y0 y1 y2 yl xv10 xv11 xv12 xv1l yv10 yv11 yv12 yv1l xv20 xv21 xv22 xv2l yv20 yv21 yv22 yv2l xv30 xv31 xv32 xv3l yv30 yv31 yv32 yv3l xv40 xv41 xv42 xv4l yv40 yv41 yv42 yv4l hkv1 hkv2 hkv3 hkv4 hbv1 hbv2 hbv3 hbv4 hB4
 obtain ⟨x0,x1,x2,xl⟩:=c3_of Q1.out
 obtain ⟨y0,y1,y2,yl⟩:=c3_of Q3.out
 have HMD:Hid (madeB r C X 0 r C X 0=true):=by unfold Hid madeB sameG;simp[sameB]
 refine wp_region_S (fun w'=>∃u,w'=over (v4) u) [] [(0,0),(0,1),(0,2),(1,3),(1,4),(0,5),(0,6),(0,7),(0,8),(0,9),(0,10)] (by kernel_rfl) (by kernel_rfl) (by exact ⟨_,below_over (by repeat (first|assumption|exact Below.refl _ _|refine keep_drew ?_|refine keep_alloc ?_ _|refine keep_trans ?_ (by assumption)))⟩) ?_
 dsimp only[pickOps,nthOp]
 repeat (first|(refine wpS_skip rfl (fun K hK=>?_);go_big_quiet_op;refine hK _ ?_;clear hK K)|(refine wpS_quiet rfl rfl (fun K hK=>?_);go_big_quiet_op;refine hK _ ?_;clear hK K)|(refine wpS_loud ?_;go_wp2_with (first|(go_at_call 52;refine (HG.out _ (keep_trans HB4.out (by (repeat (first|assumption|exact Below.refl _ _|refine keep_drew ?_|refine keep_alloc ?_ _|refine keep_trans ?_ (by assumption)))))).mono ?_;rintro _ v5 ⟨a5,c5,rfl,hi5,hbv5⟩)|(go_at_call 24;refine (lmade_v r C a2 gn c2 X 0 r C a5 gn c5 X 0 _ true HMD.out (HI4.out.mono (by (repeat (first|assumption|exact Below.refl _ _|refine keep_drew ?_|refine keep_alloc ?_ _|refine keep_trans ?_ (by assumption))))) hi5).mono ?_;rintro _ v6 ⟨rfl,hbv6⟩)|fail);refine ⟨?_,?_⟩;focus (exact ⟨_,below_over (by repeat (first|assumption|exact Below.refl _ _|refine keep_drew ?_|refine keep_alloc ?_ _|refine keep_trans ?_ (by assumption)))⟩)))
 refine wpS_end ?_
 have hB6:Below v4.heap.size v4 v6:=by (repeat (first|assumption|exact Below.refl _ _|refine keep_drew ?_|refine keep_alloc ?_ _|refine keep_trans ?_ (by assumption)))
 have HB6:=Lib.hid (keep_trans HB4.out hB6)
 clear x0 x1 x2 xl y0 y1 y2 yl
 obtain ⟨x0,x1,x2,xl⟩:=c3_of (keepq hB6 Q1.out)
 clear hB6 hbv5 hbv6 hi5
 go_wp2_with (first|(go_at_call 53;(with_reducible refine (HH.out _ HB6.out).mono ?_);rintro _ v7 ⟨rfl,hbv7⟩)|(go_at_call 20;refine (awake4_c _).mono ?_;rintro _ wz ⟨rfl,hbz⟩)|fail)
 refine bodyPost_ret (v := .bool true) ?_ rfl ⟨rfl,keep_trans HB6.out (show Below v6.heap.size v6 wz by (repeat (first|assumption|exact Below.refl _ _|refine keep_drew ?_|refine keep_alloc ?_ _|refine keep_trans ?_ (by assumption))))⟩
 simp[results,Tryz.f10,go_sem]
theorem leastR_two {N:Nat} {cs:List Int} {D:Nat} (h:leastR N cs=some D):(D:Int)≠0:=by
 have:=List.find?_some h
 unfold refuB at this
 simp only[Bool.and_eq_true,decide_eq_true_eq] at this
 omega
theorem ldeltas_c (r C:Int) (a:Option Addr) (n c:Nat) (cs:List Int) (d:Int) (w:World) (h:IC w a n cs) (_hcap:n≤c):Calls Tryz.prog 10 #[.agg #[.int .i64 r,.int .i64 C,.slice a n c],.int .i64 d] w fun e w'=>e = .returned (.bool true)∧Below w.heap.size w w':=by
 by_cases g1:300<n
 ·exact ldeltas_g r C a n c d w g1
 have HD:=fun W (hb:Below w.heap.size w W)=>deltas_c r C a n c cs W (h.mono hb)
 have HA:=fun W (hb:Below w.heap.size w W)=>rcheck_c r C a n c cs W (h.mono hb)
 by_cases h0:sqE 0 r C cs=0
 ·rw[h0] at HA
  obtain ⟨N,rfl,rfl,L⟩:=sqE_ok h0
  have hN2:=L.le
  have hn:n=N*N:=by rw[← h.len];exact L.len
  subst hn
  have hmm:N*N≤16*16:=Nat.mul_le_mul hN2 hN2
  have hX:delL (N:Int) (N:Int) cs=madeTo N (delS N cs) (N*N):=if_pos h0
  have HD2:∀W,Below w.heap.size w W→Calls Tryz.prog 48 #[.agg #[.int .i64 (N:Int),.int .i64 (N:Int),.slice a (N*N) c]] W fun e w'=>∃a2 c2,e = .returned (.tuple #[.agg #[.int .i64 (N:Int),.int .i64 (N:Int),.slice a2 (N*N) c2],.int .i64 0])∧IC w' a2 (N*N) (madeTo N (delS N cs) (N*N))∧Below W.heap.size W w':=fun W hb=>by
   have h2:=HD W hb
   rw[hX,if_pos h0,h0] at h2
   refine h2.mono fun e w' hg=>?_
   obtain ⟨a2,c2,he,hi,_,hb2⟩:=gv_of hg (by rw[madeTo_len];omega)
   rw[madeTo_len] at he hi
   exact ⟨a2,c2,he,hi,hb2⟩
  have HG:∀W,Below w.heap.size w W→Calls Tryz.prog 52 #[.agg #[.int .i64 (N:Int),.int .i64 (N:Int),.slice a (N*N) c]] W fun e w'=>∃a3 c3,e = .returned (.agg #[.int .i64 (N:Int),.int .i64 (N:Int),.slice a3 (N*N) c3])∧IC w' a3 (N*N) (madeTo N (delS N cs) (N*N))∧Below W.heap.size W w':=fun W hb=>by
   refine (rdeltas_c N (N*N) rfl a c cs W (h.mono hb) L).mono fun e w' hg=>?_
   obtain ⟨g,he,ho,hb2⟩:=hg
   exact ⟨_,_,he,ho.ic (by omega),hb2⟩
  have HE:=fun W (hb:Below w.heap.size w W)=>lrefute_c N a (N*N) c cs W (h.mono hb) L.sq h0
  have HK:=fun W (hb:Below w.heap.size w W)=>lcheckref_c N a (N*N) c cs d W (h.mono hb) L.sq h0
  have HF:=fun W (hb:Below w.heap.size w W)=>r4refutes_c N (N*N) rfl a c cs d W (h.mono hb) L
  have HH:=fun W (hb:Below w.heap.size w W)=>r4refute_c N (N*N) rfl a c cs W (h.mono hb) L
  cases ho:leastR N cs with
  | none =>
   have hv:refV N cs=0:=by unfold refV;rw[ho];rfl
   have he:refEr N cs=7:=by unfold refEr;rw[ho];rfl
   rw[hv,he] at HE
   rw[hv] at HH
   cases hb:refuB N cs d with
   | true =>
    rw[hb] at HK HF
    exact ldeltas_n1 (N:Int) (N:Int) a (N*N) c d w g1 _ (N*N) HD2 HE HK HA HF HG HH
   | false =>
    rw[hb] at HK HF
    exact ldeltas_n0 (N:Int) (N:Int) a (N*N) c d w g1 _ (N*N) HD2 HE HK HA HF HG HH
  | some D =>
   have hv:refV N cs=(D:Int):=by unfold refV;rw[ho];rfl
   have he:refEr N cs=0:=by unfold refEr;rw[ho];rfl
   rw[hv,he] at HE
   rw[hv] at HH
   have hD:=leastR_two ho
   cases hb:refuB N cs d with
   | true =>
    rw[hb] at HK HF
    exact ldeltas_s1 (N:Int) (N:Int) a (N*N) c d w g1 _ (N*N) (D:Int) hD HD2 HE HK HA HF HG HH
   | false =>
    rw[hb] at HK HF
    exact ldeltas_s0 (N:Int) (N:Int) a (N*N) c d w g1 _ (N*N) (D:Int) hD HD2 HE HK HA HF HG HH
 ·refine ldeltas_a r C a n c d w g1 _ h0 (fun W hb=>?_) (fun W hb=>lrefute_bad r C a n c cs W (h.mono hb) _ rfl h0) (fun W hb=>lcheckref_bad r C a n c cs d W (h.mono hb) _ rfl h0) HA
  have h2:=HD W hb
  rw[show delL r C cs=[] from if_neg h0,if_neg h0] at h2
  refine h2.mono fun e w' hg=>?_
  obtain ⟨a2,c2,he,hi,_,hb2⟩:=gv_of hg (by decide)
  exact ⟨a2,c2,he,hi,hb2⟩
end
end Go.Proofs.YtmfpdakaeagdpaaGreat
