/- Texts J134 to J134 of this proof, in one file. -/
import Derived.Test.YtmfpdakaeagdpaaGreatW01
import Derived.Test.YtmfpdakaeagdpaaGreatW02
import Derived.Test.YtmfpdakaeagdpaaGreatW03
import Derived.Test.YtmfpdakaeagdpaaGreatW04
import Derived.Test.YtmfpdakaeagdpaaGreatW05
import Derived.Test.YtmfpdakaeagdpaaGreatW06
import Derived.Test.YtmfpdakaeagdpaaGreatW07
import Derived.Test.YtmfpdakaeagdpaaGreatW08
import Derived.Test.YtmfpdakaeagdpaaGreatW09
import Derived.Test.YtmfpdakaeagdpaaGreatW10
import Derived.Test.YtmfpdakaeagdpaaGreatW11
import Derived.Test.YtmfpdakaeagdpaaGreatW12
import Derived.Test.YtmfpdakaeagdpaaGreatW13
import Derived.Test.YtmfpdakaeagdpaaGreatW14
import Derived.Test.YtmfpdakaeagdpaaGreatW15
import Derived.Test.YtmfpdakaeagdpaaGreatW16
import Derived.Test.YtmfpdakaeagdpaaGreatW17
import Derived.Test.YtmfpdakaeagdpaaGreatW18
import Derived.Test.YtmfpdakaeagdpaaGreatW19
import Derived.Test.YtmfpdakaeagdpaaGreatW20
import Derived.Test.YtmfpdakaeagdpaaGreatW21
import Derived.Test.YtmfpdakaeagdpaaGreatW22
import Derived.Test.YtmfpdakaeagdpaaGreatW23
import Derived.Test.YtmfpdakaeagdpaaGreatW24
import Derived.Test.YtmfpdakaeagdpaaGreatW25
import Derived.Test.YtmfpdakaeagdpaaGreatW26
import Derived.Test.YtmfpdakaeagdpaaGreatW27
import Derived.Test.YtmfpdakaeagdpaaGreatX23n01
import Derived.Test.YtmfpdakaeagdpaaGreatX23n02
import Derived.Test.YtmfpdakaeagdpaaGreatX23n03
import Derived.Below
import Derived.BigFrame
import Derived.BigQuiet
import Derived.Deep.CutBlock
import Derived.Deep.CutRange
import Derived.Deep.LoopGhost
import Derived.Deep.Quiet
import Derived.Deep.RegionHeld3
import Derived.DeepKeys4
import Derived.KernelRfl
import Derived.Laws.BitsAllLaws
import Derived.Laws.EntriesVeiled
import Derived.Lib.AppendZeros
import Derived.Lib.Hide
import Derived.Lib.SlKeysI
import Derived.Lib.SliceRun
import Derived.LoopIn
import Derived.LoopNIn
import Derived.Maps.AppendAt
import Derived.Maps.OwnIn
import Derived.Maps.OwnSet
import Derived.OneCell
import Derived.OrdersHeld
import Derived.OrdersIn
import Derived.OwnWalkIn
import Derived.RangeFuncBound
import Derived.RangeFuncBox
import Derived.RangeFuncCalls
import Derived.RangeFuncLeaves
import Derived.RangeFuncNested
import Derived.RangeFuncWrites
import Derived.Shelf.Abstract
import Derived.Shelf.SortM.Plain
import Derived.Still
import Derived.TacticsIn
import Derived.TacticsInMore
import Derived.Test.YtmfpdakaeagdpaaGreatProg
import Derived.WalkKit
import Derived.WalkLawsBesides
import Derived.WalkSpells
import Derived.WideKeyPair
namespace Go.Proofs.YtmfpdakaeagdpaaGreat
set_option maxRecDepth 100000
set_option maxHeartbeats 16000000
section
open Go Go.RowKit
attribute [local go_sem] over_cell
attribute [local go_sem] Oper.semAt_some
theorem lextends_g (r C:Int) (a:Option Addr) (n c:Nat) (w:World) (hg:300<n):Calls Tryz.prog 6 #[.agg #[.int .i64 r,.int .i64 C,.slice a n c]] w fun e w'=>e = .returned (.bool true)∧Below w.heap.size w w':=by
 have hgI:decide ((300:Int)<(n:Int))=true:=decide_eq_true (by omega)
 go_enter Tryz.func6,Tryz.ntmps6
 go_upto_region 1 with fail
 have fsz:(w.alloc (.cells #[.int .i64 r,.int .i64 C,.slice a n c] 24)).heap.size=w.heap.size+1:=by simp only[World.size_alloc]
 have fB:Below w.heap.size w (w.alloc (.cells #[.int .i64 r,.int .i64 C,.slice a n c] 24)):=(Below.refl _ _).alloc (Nat.le_refl _) _
 have fq0:(w.alloc (.cells #[.int .i64 r,.int .i64 C,.slice a n c] 24)).heap[w.heap.size]?=some (.cells #[.int .i64 r,.int .i64 C,.slice a n c] 24 (0,0)):=by have h:=World.alloc_heap_new w (.cells #[.int .i64 r,.int .i64 C,.slice a n c] 24);exact h
 generalize (w.alloc (.cells #[.int .i64 r,.int .i64 C,.slice a n c] 24))=W0 at fsz fB fq0 ⊢
 have Q0:=Lib.hid fq0
 have FB:=Lib.hid fB
 obtain ⟨x0,x1,x2,xl⟩:=c3_of fq0
 clear fq0 fsz fB
 go_wp2_with (first|(go_at_call 19;refine (lgreat_c _ _ _ _ _ 300 _).mono ?_;rintro _ w1 ⟨rfl,hbw1⟩;have hkw1:Below W0.heap.size W0 w1:=(by (repeat (first|assumption|exact Below.refl _ _|refine keep_drew ?_|refine keep_alloc ?_ _|refine keep_trans ?_ (by assumption))));obtain ⟨xw10,xw11,xw12,xw1l⟩:=c3_of (keepq hkw1 Q0.out))|(go_at_call 20;refine (awake4_c _).mono ?_;rintro _ wz ⟨rfl,hbz⟩)|fail)
 refine bodyPost_ret (v := .bool true) ?_ rfl ⟨rfl,keep_trans FB.out (show Below W0.heap.size W0 wz by (repeat (first|assumption|exact Below.refl _ _|refine keep_drew ?_|refine keep_alloc ?_ _|refine keep_trans ?_ (by assumption))))⟩
 simp[results,Tryz.f6,go_sem]
theorem lextends_a (r C:Int) (a:Option Addr) (n c:Nat) (w:World) (hg0:¬300<n) (ea:Int) (h0:ea≠0)
  (HA:∀W,Below w.heap.size w W→Calls Tryz.prog 39 #[.agg #[.int .i64 r,.int .i64 C,.slice a n c]] W fun e w'=>e = .returned (.int .i64 ea)∧Below W.heap.size W w')
  (HM:∀W,Below w.heap.size w W→Calls Tryz.prog 40 #[.agg #[.int .i64 r,.int .i64 C,.slice a n c]] W fun e w'=>∃a2 c2,e = .returned (.tuple #[.agg #[.int .i64 0,.int .i64 0,.slice a2 0 c2],.int .i64 ea])∧IC w' a2 0 []∧Below W.heap.size W w')
 : Calls Tryz.prog 6 #[.agg #[.int .i64 r,.int .i64 C,.slice a n c]] w fun e w'=>e = .returned (.bool true)∧Below w.heap.size w w':=by
 have hgI0:decide ((300:Int)<(n:Int))=false:=decide_eq_false (by omega)
 have HA:=Lib.hid HA
 have HM:=Lib.hid HM
 have e1:(ea==0)=false:=by simpa using h0
 have ex0:=h0
 clear h0
 go_enter Tryz.func6,Tryz.ntmps6
 go_upto_region 1 with fail
 have fsz:(w.alloc (.cells #[.int .i64 r,.int .i64 C,.slice a n c] 24)).heap.size=w.heap.size+1:=by simp only[World.size_alloc]
 have fB:Below w.heap.size w (w.alloc (.cells #[.int .i64 r,.int .i64 C,.slice a n c] 24)):=(Below.refl _ _).alloc (Nat.le_refl _) _
 have fq0:(w.alloc (.cells #[.int .i64 r,.int .i64 C,.slice a n c] 24)).heap[w.heap.size]?=some (.cells #[.int .i64 r,.int .i64 C,.slice a n c] 24 (0,0)):=by have h:=World.alloc_heap_new w (.cells #[.int .i64 r,.int .i64 C,.slice a n c] 24);exact h
 generalize (w.alloc (.cells #[.int .i64 r,.int .i64 C,.slice a n c] 24))=W0 at fsz fB fq0 ⊢
 have Q0:=Lib.hid fq0
 have FB:=Lib.hid fB
 obtain ⟨x0,x1,x2,xl⟩:=c3_of fq0
 clear fq0 fsz fB
 go_upto_region 9 with (first|(go_at_call 19;(with_reducible refine (lgreat_c r C a n c 300 _).mono ?_);rintro _ w1 ⟨rfl,hbw1⟩;have hkw1:Below W0.heap.size W0 w1:=(by (repeat (first|assumption|exact Below.refl _ _|refine keep_drew ?_|refine keep_alloc ?_ _|refine keep_trans ?_ (by assumption))));obtain ⟨xw10,xw11,xw12,xw1l⟩:=c3_of (keepq hkw1 Q0.out))|(go_at_call 39;(with_reducible refine (HA.out _ (keep_trans FB.out (by (repeat (first|assumption|exact Below.refl _ _|refine keep_drew ?_|refine keep_alloc ?_ _|refine keep_trans ?_ (by assumption)))))).mono ?_);rintro _ w3 ⟨rfl,hbw3⟩;have hkw3:Below W0.heap.size W0 w3:=(by (repeat (first|assumption|exact Below.refl _ _|refine keep_drew ?_|refine keep_alloc ?_ _|refine keep_trans ?_ (by assumption))));obtain ⟨xw30,xw31,xw32,xw3l⟩:=c3_of (keepq hkw3 Q0.out))|(go_at_call 40;(with_reducible refine (HM.out _ (keep_trans FB.out (by (repeat (first|assumption|exact Below.refl _ _|refine keep_drew ?_|refine keep_alloc ?_ _|refine keep_trans ?_ (by assumption)))))).mono ?_);rintro _ w2 ⟨a2,c2,rfl,hi2,hbw2⟩)|fail)
 have hB2:Below W0.heap.size W0 w2:=by (repeat (first|assumption|exact Below.refl _ _|refine keep_drew ?_|refine keep_alloc ?_ _|refine keep_trans ?_ (by assumption)))
 have gsz:(w2.alloc (.cells #[.int .i64 0,.int .i64 0,.slice a2 0 c2] 24)).heap.size=w2.heap.size+1:=by simp only[World.size_alloc]
 have gB:Below w2.heap.size w2 (w2.alloc (.cells #[.int .i64 0,.int .i64 0,.slice a2 0 c2] 24)):=(Below.refl _ _).alloc (Nat.le_refl _) _
 have gq0:(w2.alloc (.cells #[.int .i64 0,.int .i64 0,.slice a2 0 c2] 24)).heap[w2.heap.size]?=some (.cells #[.int .i64 0,.int .i64 0,.slice a2 0 c2] 24 (0,0)):=by have h:=World.alloc_heap_new w2 (.cells #[.int .i64 0,.int .i64 0,.slice a2 0 c2] 24);exact h
 generalize (w2.alloc (.cells #[.int .i64 0,.int .i64 0,.slice a2 0 c2] 24))=V3 at gsz gB gq0 ⊢
 have Q3:=Lib.hid gq0
 have Q1:=Lib.hid (keepq (keep_trans hB2 gB) Q0.out)
 have HB3:=Lib.hid (keep_trans FB.out (keep_trans hB2 gB))
 have HI3:=Lib.hid (hi2.mono gB)
 have HN2:Hid (∀b2 o2,0<0→a2=some ⟨b2,o2,none⟩→b2<w2.heap.size):=fun b2 o2 hp e=>by
  obtain ⟨b3,o3,e3,hl,_⟩:=hi2.2 0 hp
  rw[e] at e3
  cases e3
  exact hl
 have hs3:w2.heap.size+1=V3.heap.size:=gsz.symm
 clear gsz gq0 gB hB2 hi2 hbw2 x0 x1 x2 xl xw10 xw11 xw12 xw1l hkw1 hbw1 xw30 xw31 xw32 xw3l hkw3 hbw3
 obtain ⟨x0,x1,x2,xl⟩:=c3_of Q1.out
 go_upto_region 10 with fail
 have ksz:(V3.alloc (.cells #[.int .i64 0,.int .i64 0,.slice none 0 0] 24)).heap.size=V3.heap.size+1:=by simp only[World.size_alloc]
 have kB:Below V3.heap.size V3 (V3.alloc (.cells #[.int .i64 0,.int .i64 0,.slice none 0 0] 24)):=(Below.refl _ _).alloc (Nat.le_refl _) _
 have kq0:(V3.alloc (.cells #[.int .i64 0,.int .i64 0,.slice none 0 0] 24)).heap[V3.heap.size]?=some (.cells #[.int .i64 0,.int .i64 0,.slice none 0 0] 24 (0,0)):=by have h:=World.alloc_heap_new V3 (.cells #[.int .i64 0,.int .i64 0,.slice none 0 0] 24);exact h
 generalize (V3.alloc (.cells #[.int .i64 0,.int .i64 0,.slice none 0 0] 24))=V6 at ksz kB kq0 ⊢
 have Q2:=Lib.hid (keepq kB Q1.out)
 have Q4:=Lib.hid (keepq kB Q3.out)
 have Q6:=Lib.hid kq0
 have HB6:=Lib.hid (keep_trans HB3.out kB)
 have HI6:=Lib.hid (HI3.out.mono kB)
 have hs6:V3.heap.size+1=V6.heap.size:=ksz.symm
 clear x0 x1 x2 xl kq0 kB ksz
 obtain ⟨x0,x1,x2,xl⟩:=c3_of Q2.out
 obtain ⟨y0,y1,y2,yl⟩:=c3_of Q4.out
 obtain ⟨z0,z1,z2,zl⟩:=c3_of Q6.out
 have HMD:Hid (madeB 0 0 [] ea 0 0 [] ea=true):=by unfold Hid madeB sameG;simp[ex0,sameB]
 have HC:=Lib.hid (fun W (hb:Below V6.heap.size V6 W)=>lmade_v 0 0 a2 0 c2 [] ea 0 0 none 0 0 [] ea W true HMD.out (HI6.out.mono hb) ⟨⟨rfl,by omega⟩,fun k hk=>absurd hk (by omega)⟩)
 go_wp2_with (first|(go_at_call 24;refine (HC.out _ (Below.refl _ _)).mono ?_;rintro _ w8 ⟨rfl,hbw8⟩)|(go_at_call 20;refine (awake4_c _).mono ?_;rintro _ wz ⟨rfl,hbz⟩)|fail)
 refine bodyPost_ret (v := .bool true) ?_ rfl ⟨rfl,keep_trans HB6.out (show Below V6.heap.size V6 wz by (repeat (first|assumption|exact Below.refl _ _|refine keep_drew ?_|refine keep_alloc ?_ _|refine keep_trans ?_ (by assumption))))⟩
 simp[results,Tryz.f6,go_sem]
theorem lextends_b (r C:Int) (a:Option Addr) (n c:Nat) (w:World) (hg0:¬300<n) (hrc:(r==C)=true)
  (HA:∀W,Below w.heap.size w W→Calls Tryz.prog 39 #[.agg #[.int .i64 r,.int .i64 C,.slice a n c]] W fun e w'=>e = .returned (.int .i64 0)∧Below W.heap.size W w')
  (HM:∀W,Below w.heap.size w W→Calls Tryz.prog 40 #[.agg #[.int .i64 r,.int .i64 C,.slice a n c]] W fun e w'=>∃a2 c2,e = .returned (.tuple #[.agg #[.int .i64 0,.int .i64 0,.slice a2 0 c2],.int .i64 7])∧IC w' a2 0 []∧Below W.heap.size W w')
 : Calls Tryz.prog 6 #[.agg #[.int .i64 r,.int .i64 C,.slice a n c]] w fun e w'=>e = .returned (.bool true)∧Below w.heap.size w w':=by
 have hgI0:decide ((300:Int)<(n:Int))=false:=decide_eq_false (by omega)
 have HA:=Lib.hid HA
 have HM:=Lib.hid HM
 go_enter Tryz.func6,Tryz.ntmps6
 go_upto_region 1 with fail
 have fsz:(w.alloc (.cells #[.int .i64 r,.int .i64 C,.slice a n c] 24)).heap.size=w.heap.size+1:=by simp only[World.size_alloc]
 have fB:Below w.heap.size w (w.alloc (.cells #[.int .i64 r,.int .i64 C,.slice a n c] 24)):=(Below.refl _ _).alloc (Nat.le_refl _) _
 have fq0:(w.alloc (.cells #[.int .i64 r,.int .i64 C,.slice a n c] 24)).heap[w.heap.size]?=some (.cells #[.int .i64 r,.int .i64 C,.slice a n c] 24 (0,0)):=by have h:=World.alloc_heap_new w (.cells #[.int .i64 r,.int .i64 C,.slice a n c] 24);exact h
 generalize (w.alloc (.cells #[.int .i64 r,.int .i64 C,.slice a n c] 24))=W0 at fsz fB fq0 ⊢
 have Q0:=Lib.hid fq0
 have FB:=Lib.hid fB
 obtain ⟨x0,x1,x2,xl⟩:=c3_of fq0
 clear fq0 fsz fB
 go_upto_region 9 with (first|(go_at_call 19;(with_reducible refine (lgreat_c r C a n c 300 _).mono ?_);rintro _ w1 ⟨rfl,hbw1⟩;have hkw1:Below W0.heap.size W0 w1:=(by (repeat (first|assumption|exact Below.refl _ _|refine keep_drew ?_|refine keep_alloc ?_ _|refine keep_trans ?_ (by assumption))));obtain ⟨xw10,xw11,xw12,xw1l⟩:=c3_of (keepq hkw1 Q0.out))|(go_at_call 39;(with_reducible refine (HA.out _ (keep_trans FB.out (by (repeat (first|assumption|exact Below.refl _ _|refine keep_drew ?_|refine keep_alloc ?_ _|refine keep_trans ?_ (by assumption)))))).mono ?_);rintro _ w3 ⟨rfl,hbw3⟩;have hkw3:Below W0.heap.size W0 w3:=(by (repeat (first|assumption|exact Below.refl _ _|refine keep_drew ?_|refine keep_alloc ?_ _|refine keep_trans ?_ (by assumption))));obtain ⟨xw30,xw31,xw32,xw3l⟩:=c3_of (keepq hkw3 Q0.out))|(go_at_call 40;(with_reducible refine (HM.out _ (keep_trans FB.out (by (repeat (first|assumption|exact Below.refl _ _|refine keep_drew ?_|refine keep_alloc ?_ _|refine keep_trans ?_ (by assumption)))))).mono ?_);rintro _ w2 ⟨a2,c2,rfl,hi2,hbw2⟩)|fail)
 have hB2:Below W0.heap.size W0 w2:=by (repeat (first|assumption|exact Below.refl _ _|refine keep_drew ?_|refine keep_alloc ?_ _|refine keep_trans ?_ (by assumption)))
 have gsz:(w2.alloc (.cells #[.int .i64 0,.int .i64 0,.slice a2 0 c2] 24)).heap.size=w2.heap.size+1:=by simp only[World.size_alloc]
 have gB:Below w2.heap.size w2 (w2.alloc (.cells #[.int .i64 0,.int .i64 0,.slice a2 0 c2] 24)):=(Below.refl _ _).alloc (Nat.le_refl _) _
 have gq0:(w2.alloc (.cells #[.int .i64 0,.int .i64 0,.slice a2 0 c2] 24)).heap[w2.heap.size]?=some (.cells #[.int .i64 0,.int .i64 0,.slice a2 0 c2] 24 (0,0)):=by have h:=World.alloc_heap_new w2 (.cells #[.int .i64 0,.int .i64 0,.slice a2 0 c2] 24);exact h
 generalize (w2.alloc (.cells #[.int .i64 0,.int .i64 0,.slice a2 0 c2] 24))=V3 at gsz gB gq0 ⊢
 have Q3:=Lib.hid gq0
 have Q1:=Lib.hid (keepq (keep_trans hB2 gB) Q0.out)
 have HB3:=Lib.hid (keep_trans FB.out (keep_trans hB2 gB))
 have HI3:=Lib.hid (hi2.mono gB)
 have HN2:Hid (∀b2 o2,0<0→a2=some ⟨b2,o2,none⟩→b2<w2.heap.size):=fun b2 o2 hp e=>by
  obtain ⟨b3,o3,e3,hl,_⟩:=hi2.2 0 hp
  rw[e] at e3
  cases e3
  exact hl
 have hs3:w2.heap.size+1=V3.heap.size:=gsz.symm
 clear gsz gq0 gB hB2 hi2 hbw2 x0 x1 x2 xl xw10 xw11 xw12 xw1l hkw1 hbw1 xw30 xw31 xw32 xw3l hkw3 hbw3
 obtain ⟨x0,x1,x2,xl⟩:=c3_of Q1.out
 go_upto_region 10 with fail
 have ksz:(V3.alloc (.cells #[.int .i64 0,.int .i64 0,.slice none 0 0] 24)).heap.size=V3.heap.size+1:=by simp only[World.size_alloc]
 have kB:Below V3.heap.size V3 (V3.alloc (.cells #[.int .i64 0,.int .i64 0,.slice none 0 0] 24)):=(Below.refl _ _).alloc (Nat.le_refl _) _
 have kq0:(V3.alloc (.cells #[.int .i64 0,.int .i64 0,.slice none 0 0] 24)).heap[V3.heap.size]?=some (.cells #[.int .i64 0,.int .i64 0,.slice none 0 0] 24 (0,0)):=by have h:=World.alloc_heap_new V3 (.cells #[.int .i64 0,.int .i64 0,.slice none 0 0] 24);exact h
 generalize (V3.alloc (.cells #[.int .i64 0,.int .i64 0,.slice none 0 0] 24))=V6 at ksz kB kq0 ⊢
 have Q2:=Lib.hid (keepq kB Q1.out)
 have Q4:=Lib.hid (keepq kB Q3.out)
 have Q6:=Lib.hid kq0
 have HB6:=Lib.hid (keep_trans HB3.out kB)
 have HI6:=Lib.hid (HI3.out.mono kB)
 have hs6:V3.heap.size+1=V6.heap.size:=ksz.symm
 clear x0 x1 x2 xl kq0 kB ksz
 obtain ⟨x0,x1,x2,xl⟩:=c3_of Q2.out
 obtain ⟨y0,y1,y2,yl⟩:=c3_of Q4.out
 obtain ⟨z0,z1,z2,zl⟩:=c3_of Q6.out
 have HMD:Hid (madeB 0 0 [] 7 0 0 [] 7=true):=by unfold Hid madeB sameG;simp[sameB]
 have HC:=Lib.hid (fun W (hb:Below V6.heap.size V6 W)=>lmade_v 0 0 a2 0 c2 [] 7 0 0 none 0 0 [] 7 W true HMD.out (HI6.out.mono hb) ⟨⟨rfl,by omega⟩,fun k hk=>absurd hk (by omega)⟩)
 go_wp2_with (first|(go_at_call 24;refine (HC.out _ (Below.refl _ _)).mono ?_;rintro _ w8 ⟨rfl,hbw8⟩)|(go_at_call 20;refine (awake4_c _).mono ?_;rintro _ wz ⟨rfl,hbz⟩)|fail)
 refine bodyPost_ret (v := .bool true) ?_ rfl ⟨rfl,keep_trans HB6.out (show Below V6.heap.size V6 wz by (repeat (first|assumption|exact Below.refl _ _|refine keep_drew ?_|refine keep_alloc ?_ _|refine keep_trans ?_ (by assumption))))⟩
 simp[results,Tryz.f6,go_sem]
theorem lextends_d (r C:Int) (a:Option Addr) (n c:Nat) (w:World) (hg0:¬300<n) (hrc:(r==C)=false) (h8:decide (8<C)=true)
  (HA:∀W,Below w.heap.size w W→Calls Tryz.prog 39 #[.agg #[.int .i64 r,.int .i64 C,.slice a n c]] W fun e w'=>e = .returned (.int .i64 0)∧Below W.heap.size W w')
 : Calls Tryz.prog 6 #[.agg #[.int .i64 r,.int .i64 C,.slice a n c]] w fun e w'=>e = .returned (.bool true)∧Below w.heap.size w w':=by
 have hgI0:decide ((300:Int)<(n:Int))=false:=decide_eq_false (by omega)
 have HA:=Lib.hid HA
 go_enter Tryz.func6,Tryz.ntmps6
 go_upto_region 1 with fail
 have fsz:(w.alloc (.cells #[.int .i64 r,.int .i64 C,.slice a n c] 24)).heap.size=w.heap.size+1:=by simp only[World.size_alloc]
 have fB:Below w.heap.size w (w.alloc (.cells #[.int .i64 r,.int .i64 C,.slice a n c] 24)):=(Below.refl _ _).alloc (Nat.le_refl _) _
 have fq0:(w.alloc (.cells #[.int .i64 r,.int .i64 C,.slice a n c] 24)).heap[w.heap.size]?=some (.cells #[.int .i64 r,.int .i64 C,.slice a n c] 24 (0,0)):=by have h:=World.alloc_heap_new w (.cells #[.int .i64 r,.int .i64 C,.slice a n c] 24);exact h
 generalize (w.alloc (.cells #[.int .i64 r,.int .i64 C,.slice a n c] 24))=W0 at fsz fB fq0 ⊢
 have Q0:=Lib.hid fq0
 have FB:=Lib.hid fB
 obtain ⟨x0,x1,x2,xl⟩:=c3_of fq0
 clear fq0 fsz fB
 go_wp2_with (first|(go_at_call 19;(with_reducible refine (lgreat_c r C a n c 300 _).mono ?_);rintro _ w1 ⟨rfl,hbw1⟩;have hkw1:Below W0.heap.size W0 w1:=(by (repeat (first|assumption|exact Below.refl _ _|refine keep_drew ?_|refine keep_alloc ?_ _|refine keep_trans ?_ (by assumption))));obtain ⟨xw10,xw11,xw12,xw1l⟩:=c3_of (keepq hkw1 Q0.out))|(go_at_call 39;(with_reducible refine (HA.out _ (keep_trans FB.out (by (repeat (first|assumption|exact Below.refl _ _|refine keep_drew ?_|refine keep_alloc ?_ _|refine keep_trans ?_ (by assumption)))))).mono ?_);rintro _ w3 ⟨rfl,hbw3⟩;have hkw3:Below W0.heap.size W0 w3:=(by (repeat (first|assumption|exact Below.refl _ _|refine keep_drew ?_|refine keep_alloc ?_ _|refine keep_trans ?_ (by assumption))));obtain ⟨xw30,xw31,xw32,xw3l⟩:=c3_of (keepq hkw3 Q0.out))|(go_at_call 20;refine (awake4_c _).mono ?_;rintro _ wz ⟨rfl,hbz⟩)|fail)
 refine bodyPost_ret (v := .bool true) ?_ rfl ⟨rfl,keep_trans FB.out (show Below W0.heap.size W0 wz by (repeat (first|assumption|exact Below.refl _ _|refine keep_drew ?_|refine keep_alloc ?_ _|refine keep_trans ?_ (by assumption))))⟩
 simp[results,Tryz.f6,go_sem]
theorem lextends_e (r C:Int) (a:Option Addr) (n c:Nat) (w:World) (hg0:¬300<n) (hrc:(r==C)=false) (h8:decide (8<C)=false) (gn:Nat) (X:List Int)
  (HA:∀W,Below w.heap.size w W→Calls Tryz.prog 39 #[.agg #[.int .i64 r,.int .i64 C,.slice a n c]] W fun e w'=>e = .returned (.int .i64 0)∧Below W.heap.size W w')
  (HM:∀W,Below w.heap.size w W→Calls Tryz.prog 40 #[.agg #[.int .i64 r,.int .i64 C,.slice a n c]] W fun e w'=>∃a2 c2,e = .returned (.tuple #[.agg #[.int .i64 (r+1),.int .i64 C,.slice a2 gn c2],.int .i64 0])∧IC w' a2 gn X∧Below W.heap.size W w')
  (HR:∀W,Below w.heap.size w W→Calls Tryz.prog 41 #[.agg #[.int .i64 r,.int .i64 C,.slice a n c]] W fun e w'=>∃a3 c3,e = .returned (.agg #[.int .i64 (r+1),.int .i64 C,.slice a3 gn c3])∧(∀b2 o2,a3=some ⟨b2,o2,none⟩→W.heap.size≤b2)∧IC w' a3 gn X∧Below W.heap.size W w')
 : Calls Tryz.prog 6 #[.agg #[.int .i64 r,.int .i64 C,.slice a n c]] w fun e w'=>e = .returned (.bool true)∧Below w.heap.size w w':=by
 have hgI0:decide ((300:Int)<(n:Int))=false:=decide_eq_false (by omega)
 have HA:=Lib.hid HA
 have HM:=Lib.hid HM
 have HR:=Lib.hid HR
 go_enter Tryz.func6,Tryz.ntmps6
 go_upto_region 1 with fail
 have fsz:(w.alloc (.cells #[.int .i64 r,.int .i64 C,.slice a n c] 24)).heap.size=w.heap.size+1:=by simp only[World.size_alloc]
 have fB:Below w.heap.size w (w.alloc (.cells #[.int .i64 r,.int .i64 C,.slice a n c] 24)):=(Below.refl _ _).alloc (Nat.le_refl _) _
 have fq0:(w.alloc (.cells #[.int .i64 r,.int .i64 C,.slice a n c] 24)).heap[w.heap.size]?=some (.cells #[.int .i64 r,.int .i64 C,.slice a n c] 24 (0,0)):=by have h:=World.alloc_heap_new w (.cells #[.int .i64 r,.int .i64 C,.slice a n c] 24);exact h
 generalize (w.alloc (.cells #[.int .i64 r,.int .i64 C,.slice a n c] 24))=W0 at fsz fB fq0 ⊢
 have Q0:=Lib.hid fq0
 have FB:=Lib.hid fB
 obtain ⟨x0,x1,x2,xl⟩:=c3_of fq0
 clear fq0 fsz fB
 go_upto_region 9 with (first|(go_at_call 19;(with_reducible refine (lgreat_c r C a n c 300 _).mono ?_);rintro _ w1 ⟨rfl,hbw1⟩;have hkw1:Below W0.heap.size W0 w1:=(by (repeat (first|assumption|exact Below.refl _ _|refine keep_drew ?_|refine keep_alloc ?_ _|refine keep_trans ?_ (by assumption))));obtain ⟨xw10,xw11,xw12,xw1l⟩:=c3_of (keepq hkw1 Q0.out))|(go_at_call 39;(with_reducible refine (HA.out _ (keep_trans FB.out (by (repeat (first|assumption|exact Below.refl _ _|refine keep_drew ?_|refine keep_alloc ?_ _|refine keep_trans ?_ (by assumption)))))).mono ?_);rintro _ w3 ⟨rfl,hbw3⟩;have hkw3:Below W0.heap.size W0 w3:=(by (repeat (first|assumption|exact Below.refl _ _|refine keep_drew ?_|refine keep_alloc ?_ _|refine keep_trans ?_ (by assumption))));obtain ⟨xw30,xw31,xw32,xw3l⟩:=c3_of (keepq hkw3 Q0.out))|(go_at_call 40;(with_reducible refine (HM.out _ (keep_trans FB.out (by (repeat (first|assumption|exact Below.refl _ _|refine keep_drew ?_|refine keep_alloc ?_ _|refine keep_trans ?_ (by assumption)))))).mono ?_);rintro _ w2 ⟨a2,c2,rfl,hi2,hbw2⟩)|fail)
 have hB2:Below W0.heap.size W0 w2:=by (repeat (first|assumption|exact Below.refl _ _|refine keep_drew ?_|refine keep_alloc ?_ _|refine keep_trans ?_ (by assumption)))
 have gsz:(w2.alloc (.cells #[.int .i64 (r+1),.int .i64 C,.slice a2 gn c2] 24)).heap.size=w2.heap.size+1:=by simp only[World.size_alloc]
 have gB:Below w2.heap.size w2 (w2.alloc (.cells #[.int .i64 (r+1),.int .i64 C,.slice a2 gn c2] 24)):=(Below.refl _ _).alloc (Nat.le_refl _) _
 have gq0:(w2.alloc (.cells #[.int .i64 (r+1),.int .i64 C,.slice a2 gn c2] 24)).heap[w2.heap.size]?=some (.cells #[.int .i64 (r+1),.int .i64 C,.slice a2 gn c2] 24 (0,0)):=by have h:=World.alloc_heap_new w2 (.cells #[.int .i64 (r+1),.int .i64 C,.slice a2 gn c2] 24);exact h
 generalize (w2.alloc (.cells #[.int .i64 (r+1),.int .i64 C,.slice a2 gn c2] 24))=V3 at gsz gB gq0 ⊢
 have Q3:=Lib.hid gq0
 have Q1:=Lib.hid (keepq (keep_trans hB2 gB) Q0.out)
 have HB3:=Lib.hid (keep_trans FB.out (keep_trans hB2 gB))
 have HI3:=Lib.hid (hi2.mono gB)
 have HN2:Hid (∀b2 o2,0<gn→a2=some ⟨b2,o2,none⟩→b2<w2.heap.size):=fun b2 o2 hp e=>by
  obtain ⟨b3,o3,e3,hl,_⟩:=hi2.2 0 hp
  rw[e] at e3
  cases e3
  exact hl
 have hs3:w2.heap.size+1=V3.heap.size:=gsz.symm
 clear gsz gq0 gB hB2 hi2 hbw2 x0 x1 x2 xl xw10 xw11 xw12 xw1l hkw1 hbw1 xw30 xw31 xw32 xw3l hkw3 hbw3
 obtain ⟨x0,x1,x2,xl⟩:=c3_of Q1.out
 go_upto_region 10 with fail
 have ksz:(V3.alloc (.cells #[.int .i64 0,.int .i64 0,.slice none 0 0] 24)).heap.size=V3.heap.size+1:=by simp only[World.size_alloc]
 have kB:Below V3.heap.size V3 (V3.alloc (.cells #[.int .i64 0,.int .i64 0,.slice none 0 0] 24)):=(Below.refl _ _).alloc (Nat.le_refl _) _
 have kq0:(V3.alloc (.cells #[.int .i64 0,.int .i64 0,.slice none 0 0] 24)).heap[V3.heap.size]?=some (.cells #[.int .i64 0,.int .i64 0,.slice none 0 0] 24 (0,0)):=by have h:=World.alloc_heap_new V3 (.cells #[.int .i64 0,.int .i64 0,.slice none 0 0] 24);exact h
 generalize (V3.alloc (.cells #[.int .i64 0,.int .i64 0,.slice none 0 0] 24))=V6 at ksz kB kq0 ⊢
 have Q2:=Lib.hid (keepq kB Q1.out)
 have Q4:=Lib.hid (keepq kB Q3.out)
 have Q6:=Lib.hid kq0
 have HB6:=Lib.hid (keep_trans HB3.out kB)
 have HI6:=Lib.hid (HI3.out.mono kB)
 have hs6:V3.heap.size+1=V6.heap.size:=ksz.symm
 clear x0 x1 x2 xl kq0 kB ksz
 obtain ⟨x0,x1,x2,xl⟩:=c3_of Q2.out
 obtain ⟨y0,y1,y2,yl⟩:=c3_of Q4.out
 obtain ⟨z0,z1,z2,zl⟩:=c3_of Q6.out
 go_upto_region 12 with (first|(go_at_call 41;refine (HR.out _ HB6.out).mono ?_;rintro _ w7 ⟨a7,c7,rfl,hf7,hi7,hbw7⟩;obtain ⟨z70,z71,z72,z7l⟩:=c3_of (keepq hbw7 Q6.out);obtain ⟨zf0,zf1,zf2⟩:=f3_of (keepq hbw7 Q6.out))|fail)
 have g3:=st3_q (x0 := .int .i64 (r+1)) (x1 := .int .i64 C) (x2 := .slice a7 gn c7) (keepq hbw7 Q6.out)
 have hb3:=st3_below (x0 := .int .i64 (r+1)) (x1 := .int .i64 C) (x2 := .slice a7 gn c7) (b:=V3.heap.size) (keep_trans HB6.out hbw7) (by have:=HB3.out.size;omega)
 have i2:=((HI6.out.mono hbw7).stays (S:=fun k=>k=V3.heap.size) (Stays.setCell (S:=fun k=>k=V3.heap.size) w7 (p:=⟨V3.heap.size,0,none⟩) rfl (.int .i64 (r+1))) (fun b o hp e e2=>by have:=HN2.out b o hp e;omega))
 have i3:=i2.stays (S:=fun k=>k=V3.heap.size) (Stays.setCell (S:=fun k=>k=V3.heap.size) _ (p:=⟨V3.heap.size,1,none⟩) rfl (.int .i64 C)) (fun b o hp e e2=>by have:=HN2.out b o hp e;omega)
 have i4:=i3.stays (S:=fun k=>k=V3.heap.size) (Stays.setCell (S:=fun k=>k=V3.heap.size) _ (p:=⟨V3.heap.size,2,none⟩) rfl (.slice a7 gn c7)) (fun b o hp e e2=>by have:=HN2.out b o hp e;omega)
 have i7:=hi7.st3 (x0 := .int .i64 (r+1)) (x1 := .int .i64 C) (x2 := .slice a7 gn c7) (b:=V3.heap.size) (fun b o e=>by have:=hf7 b o e;omega)
 have q4:=q_other (i:=2) (q_other (i:=1) (q_other (i:=0) (keepq hbw7 Q4.out) (show w2.heap.size≠V3.heap.size by omega) (.int .i64 (r+1))) (show w2.heap.size≠V3.heap.size by omega) (.int .i64 C)) (show w2.heap.size≠V3.heap.size by omega) (.slice a7 gn c7)
 generalize (((w7.setCell ⟨V3.heap.size,0,none⟩ (.int .i64 (r+1))).setCell ⟨V3.heap.size,1,none⟩ (.int .i64 C)).setCell ⟨V3.heap.size,2,none⟩ (.slice a7 gn c7))=W9 at i4 i7 q4 g3 hb3 ⊢
 have HMD:Hid (madeB (r+1) C X 0 (r+1) C X 0=true):=by unfold Hid madeB sameG;simp[sameB]
 have HC:=Lib.hid (fun W (hb:Below W9.heap.size W9 W)=>lmade_v (r+1) C a2 gn c2 X 0 (r+1) C a7 gn c7 X 0 W true HMD.out (i4.mono hb) (i7.mono hb))
 have HB9:=Lib.hid hb3
 clear x0 x1 x2 xl y0 y1 y2 yl z0 z1 z2 zl z70 z71 z72 z7l zf0 zf1 zf2 i2 i3 hf7 hi7 hb3 hbw7
 obtain ⟨y0,y1,y2,yl⟩:=c3_of q4
 obtain ⟨z0,z1,z2,zl⟩:=c3_of g3
 clear q4 g3 i4 i7
 go_wp2_with (first|(go_at_call 24;refine (HC.out _ (Below.refl _ _)).mono ?_;rintro _ w8 ⟨rfl,hbw8⟩)|(go_at_call 20;refine (awake4_c _).mono ?_;rintro _ wz ⟨rfl,hbz⟩)|fail)
 refine bodyPost_ret (v := .bool true) ?_ rfl ⟨rfl,keep_trans HB9.out (show Below W9.heap.size W9 wz by (repeat (first|assumption|exact Below.refl _ _|refine keep_drew ?_|refine keep_alloc ?_ _|refine keep_trans ?_ (by assumption))))⟩
 simp[results,Tryz.f6,go_sem]
theorem lextends_c (r C:Int) (a:Option Addr) (n c:Nat) (cs:List Int) (w:World) (h:IC w a n cs) (hcap:n≤c):Calls Tryz.prog 6 #[.agg #[.int .i64 r,.int .i64 C,.slice a n c]] w fun e w'=>e = .returned (.bool true)∧Below w.heap.size w w':=by
 by_cases g1:300<n
 ·exact lextends_g r C a n c w g1
 have HM:=fun W (hb:Below w.heap.size w W)=>extend_c r C a n c cs W (h.mono hb) hcap
 have HA:=fun W (hb:Below w.heap.size w W)=>rcrect_c r C a n c cs W (h.mono hb) (by omega)
 by_cases hb:exB r C cs=true
 ·have hE:exE r C cs=firstL [symE 0 C.toNat cs,whenV (r==C) 7]:=by unfold exE;rw[if_pos hb]
  have hRE:reE r C cs=symE 0 C.toNat cs:=by unfold reE;rw[if_pos hb]
  have hbb:=hb
  unfold exB at hbb
  simp only[Bool.and_eq_true,decide_eq_true_eq] at hbb
  obtain ⟨⟨⟨⟨b1,b2⟩,b3⟩,b4⟩,b5⟩:=hbb
  obtain ⟨R,rfl⟩:∃R:Nat,r=(R:Int):=⟨r.toNat,by omega⟩
  obtain ⟨K,rfl⟩:∃K:Nat,C=(K:Int):=⟨C.toNat,by omega⟩
  rw[Int.toNat_natCast] at hE hRE
  by_cases h0:symE 0 K cs=0
  ·rw[h0,firstL_z] at hE
   rw[hRE,h0] at HA
   by_cases hrc:R=K
   ·have h1:((R:Int)==(K:Int))=true:=by rw[hrc];simp
    rw[h1,show firstL [whenV true 7]=7 from rfl] at hE
    have hL:exL (R:Int) (K:Int) cs=[]:=by unfold exL;rw[hE];rfl
    refine lextends_b (R:Int) (K:Int) a n c w g1 h1 HA (fun W hb=>?_)
    have h2:=HM W hb
    rw[hE,hL,if_neg (by decide),if_neg (by decide)] at h2
    refine h2.mono fun e w' hg=>?_
    obtain ⟨a2,c2,he,hi,_,hb2⟩:=gv_of hg (by decide)
    exact ⟨a2,c2,he,hi,hb2⟩
   ·have h1:((R:Int)==(K:Int))=false:=by simpa using (show ¬(R:Int)=(K:Int) by omega)
    rw[h1,show firstL [whenV false 7]=0 from rfl] at hE
    by_cases h8:8<(K:Int)
    ·exact lextends_d (R:Int) (K:Int) a n c w g1 h1 (decide_eq_true h8) HA
    ·have hL:exL (R:Int) (K:Int) cs=cs++(rpO (leftR K R cs)).getD []:=by unfold exL;rw[if_pos hE];rfl
     have hn:n=R*K:=by
      have:=h.len
      rw[this,← Int.natCast_mul] at b5
      omega
     have hmm:R*K≤16*16:=Nat.mul_le_mul (by omega) (by omega)
     have hol:((rpO (leftR K R cs)).getD []).length≤16:=Nat.le_trans (rpO_len _) (by rw[leftR_len];omega)
     have hlen:(cs++(rpO (leftR K R cs)).getD []).length≤1000:=by rw[List.length_append,h.len];omega
     refine lextends_e (R:Int) (K:Int) a n c w g1 h1 (decide_eq_false h8) (cs++(rpO (leftR K R cs)).getD []).length (cs++(rpO (leftR K R cs)).getD []) HA (fun W hb=>?_) (fun W hb=>?_)
     ·have h2:=HM W hb
      rw[hE,hL,if_pos rfl,if_pos rfl] at h2
      refine h2.mono fun e w' hg=>?_
      obtain ⟨a2,c2,he,hi,_,hb2⟩:=gv_of hg hlen
      exact ⟨a2,c2,he,hi,hb2⟩
     ·exact rExtend_c R K a n c cs W (h.mono hb) (by omega) (by omega) (by omega) hn (fun k=>(sym_num (by omega) h0 k).1)
  ·have hE2:exE (R:Int) (K:Int) cs=symE 0 K cs:=by rw[hE];exact firstL_ne h0
   have hL:exL (R:Int) (K:Int) cs=[]:=by unfold exL;rw[if_neg (by rw[hE2];exact h0)]
   rw[hRE] at HA
   refine lextends_a (R:Int) (K:Int) a n c w g1 _ h0 HA (fun W hb=>?_)
   have h2:=HM W hb
   rw[hE2,hL,if_neg h0,if_neg h0] at h2
   refine h2.mono fun e w' hg=>?_
   obtain ⟨a2,c2,he,hi,_,hb2⟩:=gv_of hg (by decide)
   exact ⟨a2,c2,he,hi,hb2⟩
 ·have hE:exE r C cs=2:=by unfold exE;rw[if_neg hb]
  have hRE:reE r C cs=2:=by unfold reE;rw[if_neg hb]
  have hL:exL r C cs=[]:=by unfold exL;rw[hE];rfl
  rw[hRE] at HA
  refine lextends_a r C a n c w g1 2 (by decide) HA (fun W hb=>?_)
  have h2:=HM W hb
  rw[hE,hL,if_neg (by decide),if_neg (by decide)] at h2
  refine h2.mono fun e w' hg=>?_
  obtain ⟨a2,c2,he,hi,_,hb2⟩:=gv_of hg (by decide)
  exact ⟨a2,c2,he,hi,hb2⟩
end
end Go.Proofs.YtmfpdakaeagdpaaGreat
