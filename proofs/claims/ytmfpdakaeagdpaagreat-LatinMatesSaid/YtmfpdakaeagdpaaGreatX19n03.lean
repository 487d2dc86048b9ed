/- Texts J111 to J111 of this proof, in one file. -/
import Derived.Test.YtmfpdakaeagdpaaGreatW01
import Derived.Test.YtmfpdakaeagdpaaGreatW02
import Derived.Test.YtmfpdakaeagdpaaGreatW03
import Derived.Test.YtmfpdakaeagdpaaGreatW04
import Derived.Test.YtmfpdakaeagdpaaGreatW05
import Derived.Test.YtmfpdakaeagdpaaGreatW06
import Derived.Test.YtmfpdakaeagdpaaGreatW07
import Derived.Test.YtmfpdakaeagdpaaGreatW08
import Derived.Test.YtmfpdakaeagdpaaGreatW09
import Derived.Test.YtmfpdakaeagdpaaGreatW10
import Derived.Test.YtmfpdakaeagdpaaGreatW11
import Derived.Test.YtmfpdakaeagdpaaGreatW12
import Derived.Test.YtmfpdakaeagdpaaGreatW13
import Derived.Test.YtmfpdakaeagdpaaGreatW14
import Derived.Test.YtmfpdakaeagdpaaGreatW15
import Derived.Test.YtmfpdakaeagdpaaGreatW16
import Derived.Test.YtmfpdakaeagdpaaGreatW17
import Derived.Test.YtmfpdakaeagdpaaGreatW18
import Derived.Test.YtmfpdakaeagdpaaGreatW19
import Derived.Test.YtmfpdakaeagdpaaGreatW20
import Derived.Test.YtmfpdakaeagdpaaGreatW21
import Derived.Test.YtmfpdakaeagdpaaGreatW22
import Derived.Test.YtmfpdakaeagdpaaGreatW23
import Derived.Test.YtmfpdakaeagdpaaGreatW24
import Derived.Test.YtmfpdakaeagdpaaGreatW25
import Derived.Test.YtmfpdakaeagdpaaGreatW26
import Derived.Test.YtmfpdakaeagdpaaGreatW27
import Derived.Test.YtmfpdakaeagdpaaGreatX19n01
import Derived.Test.YtmfpdakaeagdpaaGreatX19n02
import Derived.Below
import Derived.BigFrame
import Derived.BigQuiet
import Derived.Deep.CutBlock
import Derived.Deep.CutRange
import Derived.Deep.LoopGhost
import Derived.Deep.Quiet
import Derived.Deep.RegionHeld3
import Derived.DeepKeys4
import Derived.KernelRfl
import Derived.Laws.BitsAllLaws
import Derived.Laws.EntriesVeiled
import Derived.Lib.AppendZeros
import Derived.Lib.Hide
import Derived.Lib.SlKeysI
import Derived.Lib.SliceRun
import Derived.LoopIn
import Derived.LoopNIn
import Derived.Maps.AppendAt
import Derived.Maps.OwnIn
import Derived.Maps.OwnSet
import Derived.OneCell
import Derived.OrdersHeld
import Derived.OrdersIn
import Derived.OwnWalkIn
import Derived.RangeFuncBound
import Derived.RangeFuncBox
import Derived.RangeFuncCalls
import Derived.RangeFuncLeaves
import Derived.RangeFuncNested
import Derived.RangeFuncWrites
import Derived.Shelf.Abstract
import Derived.Shelf.SortM.Plain
import Derived.Still
import Derived.TacticsIn
import Derived.TacticsInMore
import Derived.Test.YtmfpdakaeagdpaaGreatProg
import Derived.WalkKit
import Derived.WalkLawsBesides
import Derived.WalkSpells
import Derived.WideKeyPair
namespace Go.Proofs.YtmfpdakaeagdpaaGreat
set_option maxRecDepth 100000
set_option maxHeartbeats 16000000
section
open Go Go.RowKit
attribute [local go_sem] over_cell
attribute [local go_sem] Oper.semAt_some
theorem lmates_g (r C:Int) (a:Option Addr) (n c:Nat) (w:World) (hg:300<n):Calls Tryz.prog 3 #[.agg #[.int .i64 r,.int .i64 C,.slice a n c]] w fun e w'=>e = .returned (.bool true)∧Below w.heap.size w w':=by
 have hgI:decide ((300:Int)<(n:Int))=true:=decide_eq_true (by omega)
 go_enter Tryz.func3,Tryz.ntmps3
 go_upto_region 1 with fail
 have fsz:(w.alloc (.cells #[.int .i64 r,.int .i64 C,.slice a n c] 24)).heap.size=w.heap.size+1:=by simp only[World.size_alloc]
 have fB:Below w.heap.size w (w.alloc (.cells #[.int .i64 r,.int .i64 C,.slice a n c] 24)):=(Below.refl _ _).alloc (Nat.le_refl _) _
 have fq0:(w.alloc (.cells #[.int .i64 r,.int .i64 C,.slice a n c] 24)).heap[w.heap.size]?=some (.cells #[.int .i64 r,.int .i64 C,.slice a n c] 24 (0,0)):=by have h:=World.alloc_heap_new w (.cells #[.int .i64 r,.int .i64 C,.slice a n c] 24);exact h
 generalize (w.alloc (.cells #[.int .i64 r,.int .i64 C,.slice a n c] 24))=W0 at fsz fB fq0 ⊢
 have Q0:=Lib.hid fq0
 have FB:=Lib.hid fB
 obtain ⟨x0,x1,x2,xl⟩:=c3_of fq0
 clear fq0 fsz fB
 go_wp2_with (first|(go_at_call 19;refine (lgreat_c _ _ _ _ _ 300 _).mono ?_;rintro _ w1 ⟨rfl,hbw1⟩;have hkw1:Below W0.heap.size W0 w1:=(by (repeat (first|assumption|exact Below.refl _ _|refine keep_drew ?_|refine keep_alloc ?_ _|refine keep_trans ?_ (by assumption))));obtain ⟨xw10,xw11,xw12,xw1l⟩:=c3_of (keepq hkw1 Q0.out))|(go_at_call 20;refine (awake4_c _).mono ?_;rintro _ wz ⟨rfl,hbz⟩)|fail)
 refine bodyPost_ret (v := .bool true) ?_ rfl ⟨rfl,keep_trans FB.out (show Below W0.heap.size W0 wz by (repeat (first|assumption|exact Below.refl _ _|refine keep_drew ?_|refine keep_alloc ?_ _|refine keep_trans ?_ (by assumption))))⟩
 simp[results,Tryz.f3,go_sem]
theorem lmade_v (r C:Int) (a:Option Addr) (n c:Nat) (cs:List Int) (er:Int) (r2 C2:Int) (a2:Option Addr) (n2 c2:Nat) (ds:List Int) (bad:Int) (w:World) (b:Bool) (hv:madeB r C cs er r2 C2 ds bad=b) (h:IC w a n cs) (h2:IC w a2 n2 ds) :
  Calls Tryz.prog 24 #[.agg #[.int .i64 r,.int .i64 C,.slice a n c],.int .i64 er,.agg #[.int .i64 r2,.int .i64 C2,.slice a2 n2 c2],.int .i64 bad] w fun e w'=>e = .returned (.bool b)∧Below w.heap.size w w':=by
 rw[← hv];exact lmade_c r C a n c cs er r2 C2 a2 n2 c2 ds bad w h h2
theorem lmates_a (r C:Int) (a:Option Addr) (n c:Nat) (w:World) (hg0:¬300<n) (ea:Int) (h0:ea≠0)
  (HM:∀W,Below w.heap.size w W→Calls Tryz.prog 21 #[.agg #[.int .i64 r,.int .i64 C,.slice a n c]] W fun e w'=>∃a2 c2,e = .returned (.tuple #[.agg #[.int .i64 0,.int .i64 0,.slice a2 0 c2],.int .i64 ea])∧IC w' a2 0 []∧Below W.heap.size W w')
  (HA:∀W,Below w.heap.size w W→Calls Tryz.prog 22 #[.agg #[.int .i64 r,.int .i64 C,.slice a n c]] W fun e w'=>e = .returned (.int .i64 ea)∧Below W.heap.size W w')
 : Calls Tryz.prog 3 #[.agg #[.int .i64 r,.int .i64 C,.slice a n c]] w fun e w'=>e = .returned (.bool true)∧Below w.heap.size w w':=by
 have hgI0:decide ((300:Int)<(n:Int))=false:=decide_eq_false (by omega)
 have HM:=Lib.hid HM
 have HA:=Lib.hid HA
 have e1:(ea==0)=false:=by simpa using h0
 have ex0:=h0
 have HX0:=Lib.hid h0
 clear h0
 go_enter Tryz.func3,Tryz.ntmps3
 go_upto_region 1 with fail
 have fsz:(w.alloc (.cells #[.int .i64 r,.int .i64 C,.slice a n c] 24)).heap.size=w.heap.size+1:=by simp only[World.size_alloc]
 have fB:Below w.heap.size w (w.alloc (.cells #[.int .i64 r,.int .i64 C,.slice a n c] 24)):=(Below.refl _ _).alloc (Nat.le_refl _) _
 have fq0:(w.alloc (.cells #[.int .i64 r,.int .i64 C,.slice a n c] 24)).heap[w.heap.size]?=some (.cells #[.int .i64 r,.int .i64 C,.slice a n c] 24 (0,0)):=by have h:=World.alloc_heap_new w (.cells #[.int .i64 r,.int .i64 C,.slice a n c] 24);exact h
 generalize (w.alloc (.cells #[.int .i64 r,.int .i64 C,.slice a n c] 24))=W0 at fsz fB fq0 ⊢
 have Q0:=Lib.hid fq0
 have FB:=Lib.hid fB
 obtain ⟨x0,x1,x2,xl⟩:=c3_of fq0
 clear fq0 fsz fB
 go_upto_region 4 with (first|(go_at_call 19;(with_reducible refine (lgreat_c r C a n c 300 _).mono ?_);rintro _ w1 ⟨rfl,hbw1⟩;have hkw1:Below W0.heap.size W0 w1:=(by (repeat (first|assumption|exact Below.refl _ _|refine keep_drew ?_|refine keep_alloc ?_ _|refine keep_trans ?_ (by assumption))));obtain ⟨xw10,xw11,xw12,xw1l⟩:=c3_of (keepq hkw1 Q0.out))|(go_at_call 21;(with_reducible refine (HM.out _ (keep_trans FB.out (by (repeat (first|assumption|exact Below.refl _ _|refine keep_drew ?_|refine keep_alloc ?_ _|refine keep_trans ?_ (by assumption)))))).mono ?_);rintro _ w2 ⟨a2,c2,rfl,hi2,hbw2⟩)|fail)
 have hB2:Below W0.heap.size W0 w2:=by (repeat (first|assumption|exact Below.refl _ _|refine keep_drew ?_|refine keep_alloc ?_ _|refine keep_trans ?_ (by assumption)))
 have gsz:(w2.alloc (.cells #[.int .i64 0,.int .i64 0,.slice a2 0 c2] 24)).heap.size=w2.heap.size+1:=by simp only[World.size_alloc]
 have gB:Below w2.heap.size w2 (w2.alloc (.cells #[.int .i64 0,.int .i64 0,.slice a2 0 c2] 24)):=(Below.refl _ _).alloc (Nat.le_refl _) _
 have gq0:(w2.alloc (.cells #[.int .i64 0,.int .i64 0,.slice a2 0 c2] 24)).heap[w2.heap.size]?=some (.cells #[.int .i64 0,.int .i64 0,.slice a2 0 c2] 24 (0,0)):=by have h:=World.alloc_heap_new w2 (.cells #[.int .i64 0,.int .i64 0,.slice a2 0 c2] 24);exact h
 generalize (w2.alloc (.cells #[.int .i64 0,.int .i64 0,.slice a2 0 c2] 24))=V3 at gsz gB gq0 ⊢
 have Q3:=Lib.hid gq0
 have Q1:=Lib.hid (keepq (keep_trans hB2 gB) Q0.out)
 have HB3:=Lib.hid (keep_trans FB.out (keep_trans hB2 gB))
 have HI3:=Lib.hid (hi2.mono gB)
 have HN2:Hid (∀b2 o2,0<0→a2=some ⟨b2,o2,none⟩→b2<w2.heap.size):=fun b2 o2 hp e=>by
  obtain ⟨b3,o3,e3,hl,_⟩:=hi2.2 0 hp
  rw[e] at e3
  cases e3
  exact hl
 have hs3:w2.heap.size+1=V3.heap.size:=gsz.symm
 clear gsz gq0 gB hB2 hi2 hbw2 x0 x1 x2 xl xw10 xw11 xw12 xw1l hkw1 hbw1
 obtain ⟨x0,x1,x2,xl⟩:=c3_of Q1.out
 go_upto_region 8 with (first|(go_at_call 22;(with_reducible refine (HA.out _ HB3.out).mono ?_);rintro _ w5 ⟨rfl,hbw5⟩;obtain ⟨x50,x51,x52,x5l⟩:=c3_of (keepq hbw5 Q1.out))|fail)
 have ksz:(w5.alloc (.cells #[.int .i64 0,.int .i64 0,.slice none 0 0] 24)).heap.size=w5.heap.size+1:=by simp only[World.size_alloc]
 have kB:Below w5.heap.size w5 (w5.alloc (.cells #[.int .i64 0,.int .i64 0,.slice none 0 0] 24)):=(Below.refl _ _).alloc (Nat.le_refl _) _
 have kq0:(w5.alloc (.cells #[.int .i64 0,.int .i64 0,.slice none 0 0] 24)).heap[w5.heap.size]?=some (.cells #[.int .i64 0,.int .i64 0,.slice none 0 0] 24 (0,0)):=by have h:=World.alloc_heap_new w5 (.cells #[.int .i64 0,.int .i64 0,.slice none 0 0] 24);exact h
 generalize (w5.alloc (.cells #[.int .i64 0,.int .i64 0,.slice none 0 0] 24))=V6 at ksz kB kq0 ⊢
 have hB6:=keep_trans hbw5 kB
 have Q2:=Lib.hid (keepq hB6 Q1.out)
 have Q4:=Lib.hid (keepq hB6 Q3.out)
 have Q6:=Lib.hid kq0
 have HB6:=Lib.hid (keep_trans HB3.out hB6)
 have HI6:=Lib.hid (HI3.out.mono hB6)
 have hs5:=hbw5.size
 have hs6:w5.heap.size+1=V6.heap.size:=ksz.symm
 clear x0 x1 x2 xl x50 x51 x52 x5l kq0 kB ksz hB6 hbw5
 obtain ⟨x0,x1,x2,xl⟩:=c3_of Q2.out
 obtain ⟨y0,y1,y2,yl⟩:=c3_of Q4.out
 obtain ⟨z0,z1,z2,zl⟩:=c3_of Q6.out
 have HMD:Hid (madeB 0 0 [] ea 0 0 [] ea=true):=by unfold Hid madeB sameG;simp[ex0,sameB]
 have HC:=Lib.hid (fun W (hb:Below V6.heap.size V6 W)=>lmade_v 0 0 a2 0 c2 [] ea 0 0 none 0 0 [] ea W true HMD.out (HI6.out.mono hb) ⟨⟨rfl,by omega⟩,fun k hk=>absurd hk (by omega)⟩)
 go_wp2_with (first|(go_at_call 24;refine (HC.out _ (Below.refl _ _)).mono ?_;rintro _ w8 ⟨rfl,hbw8⟩)|(go_at_call 20;refine (awake4_c _).mono ?_;rintro _ wz ⟨rfl,hbz⟩)|fail)
 refine bodyPost_ret (v := .bool true) ?_ rfl ⟨rfl,keep_trans HB6.out (show Below V6.heap.size V6 wz by (repeat (first|assumption|exact Below.refl _ _|refine keep_drew ?_|refine keep_alloc ?_ _|refine keep_trans ?_ (by assumption))))⟩
 simp[results,Tryz.f3,go_sem]
theorem lmates_r (r C:Int) (a:Option Addr) (n c:Nat) (w:World) (hg0:¬300<n) (h0:5<r)
  (HM:∀W,Below w.heap.size w W→Calls Tryz.prog 21 #[.agg #[.int .i64 r,.int .i64 C,.slice a n c]] W fun e w'=>∃a2 c2,e = .returned (.tuple #[.agg #[.int .i64 0,.int .i64 0,.slice a2 0 c2],.int .i64 20])∧IC w' a2 0 []∧Below W.heap.size W w')
  (HA:∀W,Below w.heap.size w W→Calls Tryz.prog 22 #[.agg #[.int .i64 r,.int .i64 C,.slice a n c]] W fun e w'=>e = .returned (.int .i64 0)∧Below W.heap.size W w')
 : Calls Tryz.prog 3 #[.agg #[.int .i64 r,.int .i64 C,.slice a n c]] w fun e w'=>e = .returned (.bool true)∧Below w.heap.size w w':=by
 have hgI0:decide ((300:Int)<(n:Int))=false:=decide_eq_false (by omega)
 have HM:=Lib.hid HM
 have HA:=Lib.hid HA
 have e1:decide ((5:Int)<r)=true:=decide_eq_true h0
 have ex0:(20:Int)≠0:=by decide
 go_enter Tryz.func3,Tryz.ntmps3
 go_upto_region 1 with fail
 have fsz:(w.alloc (.cells #[.int .i64 r,.int .i64 C,.slice a n c] 24)).heap.size=w.heap.size+1:=by simp only[World.size_alloc]
 have fB:Below w.heap.size w (w.alloc (.cells #[.int .i64 r,.int .i64 C,.slice a n c] 24)):=(Below.refl _ _).alloc (Nat.le_refl _) _
 have fq0:(w.alloc (.cells #[.int .i64 r,.int .i64 C,.slice a n c] 24)).heap[w.heap.size]?=some (.cells #[.int .i64 r,.int .i64 C,.slice a n c] 24 (0,0)):=by have h:=World.alloc_heap_new w (.cells #[.int .i64 r,.int .i64 C,.slice a n c] 24);exact h
 generalize (w.alloc (.cells #[.int .i64 r,.int .i64 C,.slice a n c] 24))=W0 at fsz fB fq0 ⊢
 have Q0:=Lib.hid fq0
 have FB:=Lib.hid fB
 obtain ⟨x0,x1,x2,xl⟩:=c3_of fq0
 clear fq0 fsz fB
 go_upto_region 4 with (first|(go_at_call 19;(with_reducible refine (lgreat_c r C a n c 300 _).mono ?_);rintro _ w1 ⟨rfl,hbw1⟩;have hkw1:Below W0.heap.size W0 w1:=(by (repeat (first|assumption|exact Below.refl _ _|refine keep_drew ?_|refine keep_alloc ?_ _|refine keep_trans ?_ (by assumption))));obtain ⟨xw10,xw11,xw12,xw1l⟩:=c3_of (keepq hkw1 Q0.out))|(go_at_call 21;(with_reducible refine (HM.out _ (keep_trans FB.out (by (repeat (first|assumption|exact Below.refl _ _|refine keep_drew ?_|refine keep_alloc ?_ _|refine keep_trans ?_ (by assumption)))))).mono ?_);rintro _ w2 ⟨a2,c2,rfl,hi2,hbw2⟩)|fail)
 have hB2:Below W0.heap.size W0 w2:=by (repeat (first|assumption|exact Below.refl _ _|refine keep_drew ?_|refine keep_alloc ?_ _|refine keep_trans ?_ (by assumption)))
 have gsz:(w2.alloc (.cells #[.int .i64 0,.int .i64 0,.slice a2 0 c2] 24)).heap.size=w2.heap.size+1:=by simp only[World.size_alloc]
 have gB:Below w2.heap.size w2 (w2.alloc (.cells #[.int .i64 0,.int .i64 0,.slice a2 0 c2] 24)):=(Below.refl _ _).alloc (Nat.le_refl _) _
 have gq0:(w2.alloc (.cells #[.int .i64 0,.int .i64 0,.slice a2 0 c2] 24)).heap[w2.heap.size]?=some (.cells #[.int .i64 0,.int .i64 0,.slice a2 0 c2] 24 (0,0)):=by have h:=World.alloc_heap_new w2 (.cells #[.int .i64 0,.int .i64 0,.slice a2 0 c2] 24);exact h
 generalize (w2.alloc (.cells #[.int .i64 0,.int .i64 0,.slice a2 0 c2] 24))=V3 at gsz gB gq0 ⊢
 have Q3:=Lib.hid gq0
 have Q1:=Lib.hid (keepq (keep_trans hB2 gB) Q0.out)
 have HB3:=Lib.hid (keep_trans FB.out (keep_trans hB2 gB))
 have HI3:=Lib.hid (hi2.mono gB)
 have HN2:Hid (∀b2 o2,0<0→a2=some ⟨b2,o2,none⟩→b2<w2.heap.size):=fun b2 o2 hp e=>by
  obtain ⟨b3,o3,e3,hl,_⟩:=hi2.2 0 hp
  rw[e] at e3
  cases e3
  exact hl
 have hs3:w2.heap.size+1=V3.heap.size:=gsz.symm
 clear gsz gq0 gB hB2 hi2 hbw2 x0 x1 x2 xl xw10 xw11 xw12 xw1l hkw1 hbw1
 obtain ⟨x0,x1,x2,xl⟩:=c3_of Q1.out
 go_upto_region 8 with (first|(go_at_call 22;(with_reducible refine (HA.out _ HB3.out).mono ?_);rintro _ w5 ⟨rfl,hbw5⟩;obtain ⟨x50,x51,x52,x5l⟩:=c3_of (keepq hbw5 Q1.out))|fail)
 have ksz:(w5.alloc (.cells #[.int .i64 0,.int .i64 0,.slice none 0 0] 24)).heap.size=w5.heap.size+1:=by simp only[World.size_alloc]
 have kB:Below w5.heap.size w5 (w5.alloc (.cells #[.int .i64 0,.int .i64 0,.slice none 0 0] 24)):=(Below.refl _ _).alloc (Nat.le_refl _) _
 have kq0:(w5.alloc (.cells #[.int .i64 0,.int .i64 0,.slice none 0 0] 24)).heap[w5.heap.size]?=some (.cells #[.int .i64 0,.int .i64 0,.slice none 0 0] 24 (0,0)):=by have h:=World.alloc_heap_new w5 (.cells #[.int .i64 0,.int .i64 0,.slice none 0 0] 24);exact h
 generalize (w5.alloc (.cells #[.int .i64 0,.int .i64 0,.slice none 0 0] 24))=V6 at ksz kB kq0 ⊢
 have hB6:=keep_trans hbw5 kB
 have Q2:=Lib.hid (keepq hB6 Q1.out)
 have Q4:=Lib.hid (keepq hB6 Q3.out)
 have Q6:=Lib.hid kq0
 have HB6:=Lib.hid (keep_trans HB3.out hB6)
 have HI6:=Lib.hid (HI3.out.mono hB6)
 have hs5:=hbw5.size
 have hs6:w5.heap.size+1=V6.heap.size:=ksz.symm
 clear x0 x1 x2 xl x50 x51 x52 x5l kq0 kB ksz hB6 hbw5
 obtain ⟨x0,x1,x2,xl⟩:=c3_of Q2.out
 obtain ⟨y0,y1,y2,yl⟩:=c3_of Q4.out
 obtain ⟨z0,z1,z2,zl⟩:=c3_of Q6.out
 have HMD:Hid (madeB 0 0 [] 20 0 0 [] 20=true):=by unfold Hid madeB sameG;simp[ex0,sameB]
 have HC:=Lib.hid (fun W (hb:Below V6.heap.size V6 W)=>lmade_v 0 0 a2 0 c2 [] 20 0 0 none 0 0 [] 20 W true HMD.out (HI6.out.mono hb) ⟨⟨rfl,by omega⟩,fun k hk=>absurd hk (by omega)⟩)
 go_wp2_with (first|(go_at_call 24;refine (HC.out _ (Below.refl _ _)).mono ?_;rintro _ w8 ⟨rfl,hbw8⟩)|(go_at_call 20;refine (awake4_c _).mono ?_;rintro _ wz ⟨rfl,hbz⟩)|fail)
 refine bodyPost_ret (v := .bool true) ?_ rfl ⟨rfl,keep_trans HB6.out (show Below V6.heap.size V6 wz by (repeat (first|assumption|exact Below.refl _ _|refine keep_drew ?_|refine keep_alloc ?_ _|refine keep_trans ?_ (by assumption))))⟩
 simp[results,Tryz.f3,go_sem]
theorem lmates_n (r C:Int) (a:Option Addr) (n c:Nat) (w:World) (hg0:¬300<n) (h0:¬5<r)
  (HM:∀W,Below w.heap.size w W→Calls Tryz.prog 21 #[.agg #[.int .i64 r,.int .i64 C,.slice a n c]] W fun e w'=>∃a2 c2,e = .returned (.tuple #[.agg #[.int .i64 0,.int .i64 0,.slice a2 0 c2],.int .i64 7])∧IC w' a2 0 []∧Below W.heap.size W w')
  (HA:∀W,Below w.heap.size w W→Calls Tryz.prog 22 #[.agg #[.int .i64 r,.int .i64 C,.slice a n c]] W fun e w'=>e = .returned (.int .i64 0)∧Below W.heap.size W w')
  (HR:∀W,Below w.heap.size w W→Calls Tryz.prog 23 #[.agg #[.int .i64 r,.int .i64 C,.slice a n c]] W fun e w'=>∃a3 c3,e = .returned (.tuple #[.agg #[.int .i64 0,.int .i64 0,.slice a3 0 c3],.bool false])∧(∀b2 o2,a3=some ⟨b2,o2,none⟩→W.heap.size≤b2)∧IC w' a3 0 []∧Below W.heap.size W w'):Calls Tryz.prog 3 #[.agg #[.int .i64 r,.int .i64 C,.slice a n c]] w fun e w'=>e = .returned (.bool true)∧Below w.heap.size w w':=by
 have hgI0:decide ((300:Int)<(n:Int))=false:=decide_eq_false (by omega)
 have HM:=Lib.hid HM
 have HA:=Lib.hid HA
 have HR:=Lib.hid HR
 have e1:decide ((5:Int)<r)=false:=decide_eq_false h0
 go_enter Tryz.func3,Tryz.ntmps3
 go_upto_region 1 with fail
 have fsz:(w.alloc (.cells #[.int .i64 r,.int .i64 C,.slice a n c] 24)).heap.size=w.heap.size+1:=by simp only[World.size_alloc]
 have fB:Below w.heap.size w (w.alloc (.cells #[.int .i64 r,.int .i64 C,.slice a n c] 24)):=(Below.refl _ _).alloc (Nat.le_refl _) _
 have fq0:(w.alloc (.cells #[.int .i64 r,.int .i64 C,.slice a n c] 24)).heap[w.heap.size]?=some (.cells #[.int .i64 r,.int .i64 C,.slice a n c] 24 (0,0)):=by have h:=World.alloc_heap_new w (.cells #[.int .i64 r,.int .i64 C,.slice a n c] 24);exact h
 generalize (w.alloc (.cells #[.int .i64 r,.int .i64 C,.slice a n c] 24))=W0 at fsz fB fq0 ⊢
 have Q0:=Lib.hid fq0
 have FB:=Lib.hid fB
 obtain ⟨x0,x1,x2,xl⟩:=c3_of fq0
 clear fq0 fsz fB
 go_upto_region 4 with (first|(go_at_call 19;(with_reducible refine (lgreat_c r C a n c 300 _).mono ?_);rintro _ w1 ⟨rfl,hbw1⟩;have hkw1:Below W0.heap.size W0 w1:=(by (repeat (first|assumption|exact Below.refl _ _|refine keep_drew ?_|refine keep_alloc ?_ _|refine keep_trans ?_ (by assumption))));obtain ⟨xw10,xw11,xw12,xw1l⟩:=c3_of (keepq hkw1 Q0.out))|(go_at_call 21;(with_reducible refine (HM.out _ (keep_trans FB.out (by (repeat (first|assumption|exact Below.refl _ _|refine keep_drew ?_|refine keep_alloc ?_ _|refine keep_trans ?_ (by assumption)))))).mono ?_);rintro _ w2 ⟨a2,c2,rfl,hi2,hbw2⟩)|fail)
 have hB2:Below W0.heap.size W0 w2:=by (repeat (first|assumption|exact Below.refl _ _|refine keep_drew ?_|refine keep_alloc ?_ _|refine keep_trans ?_ (by assumption)))
 have gsz:(w2.alloc (.cells #[.int .i64 0,.int .i64 0,.slice a2 0 c2] 24)).heap.size=w2.heap.size+1:=by simp only[World.size_alloc]
 have gB:Below w2.heap.size w2 (w2.alloc (.cells #[.int .i64 0,.int .i64 0,.slice a2 0 c2] 24)):=(Below.refl _ _).alloc (Nat.le_refl _) _
 have gq0:(w2.alloc (.cells #[.int .i64 0,.int .i64 0,.slice a2 0 c2] 24)).heap[w2.heap.size]?=some (.cells #[.int .i64 0,.int .i64 0,.slice a2 0 c2] 24 (0,0)):=by have h:=World.alloc_heap_new w2 (.cells #[.int .i64 0,.int .i64 0,.slice a2 0 c2] 24);exact h
 generalize (w2.alloc (.cells #[.int .i64 0,.int .i64 0,.slice a2 0 c2] 24))=V3 at gsz gB gq0 ⊢
 have Q3:=Lib.hid gq0
 have Q1:=Lib.hid (keepq (keep_trans hB2 gB) Q0.out)
 have HB3:=Lib.hid (keep_trans FB.out (keep_trans hB2 gB))
 have HI3:=Lib.hid (hi2.mono gB)
 have HN2:Hid (∀b2 o2,0<0→a2=some ⟨b2,o2,none⟩→b2<w2.heap.size):=fun b2 o2 hp e=>by
  obtain ⟨b3,o3,e3,hl,_⟩:=hi2.2 0 hp
  rw[e] at e3
  cases e3
  exact hl
 have hs3:w2.heap.size+1=V3.heap.size:=gsz.symm
 clear gsz gq0 gB hB2 hi2 hbw2 x0 x1 x2 xl xw10 xw11 xw12 xw1l hkw1 hbw1
 obtain ⟨x0,x1,x2,xl⟩:=c3_of Q1.out
 go_upto_region 8 with (first|(go_at_call 22;(with_reducible refine (HA.out _ HB3.out).mono ?_);rintro _ w5 ⟨rfl,hbw5⟩;obtain ⟨x50,x51,x52,x5l⟩:=c3_of (keepq hbw5 Q1.out))|fail)
 have ksz:(w5.alloc (.cells #[.int .i64 0,.int .i64 0,.slice none 0 0] 24)).heap.size=w5.heap.size+1:=by simp only[World.size_alloc]
 have kB:Below w5.heap.size w5 (w5.alloc (.cells #[.int .i64 0,.int .i64 0,.slice none 0 0] 24)):=(Below.refl _ _).alloc (Nat.le_refl _) _
 have kq0:(w5.alloc (.cells #[.int .i64 0,.int .i64 0,.slice none 0 0] 24)).heap[w5.heap.size]?=some (.cells #[.int .i64 0,.int .i64 0,.slice none 0 0] 24 (0,0)):=by have h:=World.alloc_heap_new w5 (.cells #[.int .i64 0,.int .i64 0,.slice none 0 0] 24);exact h
 generalize (w5.alloc (.cells #[.int .i64 0,.int .i64 0,.slice none 0 0] 24))=V6 at ksz kB kq0 ⊢
 have hB6:=keep_trans hbw5 kB
 have Q2:=Lib.hid (keepq hB6 Q1.out)
 have Q4:=Lib.hid (keepq hB6 Q3.out)
 have Q6:=Lib.hid kq0
 have HB6:=Lib.hid (keep_trans HB3.out hB6)
 have HI6:=Lib.hid (HI3.out.mono hB6)
 have hs5:=hbw5.size
 have hs6:w5.heap.size+1=V6.heap.size:=ksz.symm
 clear x0 x1 x2 xl x50 x51 x52 x5l kq0 kB ksz hB6 hbw5
 obtain ⟨x0,x1,x2,xl⟩:=c3_of Q2.out
 obtain ⟨y0,y1,y2,yl⟩:=c3_of Q4.out
 obtain ⟨z0,z1,z2,zl⟩:=c3_of Q6.out
 go_upto_region 11 with (first|(go_at_call 23;refine (HR.out _ HB6.out).mono ?_;rintro _ w7 ⟨a7,c7,rfl,hf7,hi7,hbw7⟩;obtain ⟨z70,z71,z72,z7l⟩:=c3_of (keepq hbw7 Q6.out);obtain ⟨zf0,zf1,zf2⟩:=f3_of (keepq hbw7 Q6.out))|fail)
 have g3:=st3_q (x0 := .int .i64 0) (x1 := .int .i64 0) (x2 := .slice a7 0 c7) (keepq hbw7 Q6.out)
 have hb3:=st3_below (x0 := .int .i64 0) (x1 := .int .i64 0) (x2 := .slice a7 0 c7) (b:=w5.heap.size) (keep_trans HB6.out hbw7) (by have:=HB3.out.size;omega)
 have i2:=((HI6.out.mono hbw7).stays (S:=fun k=>k=w5.heap.size) (Stays.setCell (S:=fun k=>k=w5.heap.size) w7 (p:=⟨w5.heap.size,0,none⟩) rfl (.int .i64 0)) (fun b o hp e e2=>by have:=HN2.out b o hp e;omega))
 have i3:=i2.stays (S:=fun k=>k=w5.heap.size) (Stays.setCell (S:=fun k=>k=w5.heap.size) _ (p:=⟨w5.heap.size,1,none⟩) rfl (.int .i64 0)) (fun b o hp e e2=>by have:=HN2.out b o hp e;omega)
 have i4:=i3.stays (S:=fun k=>k=w5.heap.size) (Stays.setCell (S:=fun k=>k=w5.heap.size) _ (p:=⟨w5.heap.size,2,none⟩) rfl (.slice a7 0 c7)) (fun b o hp e e2=>by have:=HN2.out b o hp e;omega)
 have i7:=hi7.st3 (x0 := .int .i64 0) (x1 := .int .i64 0) (x2 := .slice a7 0 c7) (b:=w5.heap.size) (fun b o e=>by have:=hf7 b o e;omega)
 have q4:=q_other (i:=2) (q_other (i:=1) (q_other (i:=0) (keepq hbw7 Q4.out) (show w2.heap.size≠w5.heap.size by omega) (.int .i64 0)) (show w2.heap.size≠w5.heap.size by omega) (.int .i64 0)) (show w2.heap.size≠w5.heap.size by omega) (.slice a7 0 c7)
 generalize (((w7.setCell ⟨w5.heap.size,0,none⟩ (.int .i64 0)).setCell ⟨w5.heap.size,1,none⟩ (.int .i64 0)).setCell ⟨w5.heap.size,2,none⟩ (.slice a7 0 c7))=W9 at i4 i7 q4 g3 hb3 ⊢
 have HMD:Hid (madeB 0 0 [] 7 0 0 [] 7=true):=by unfold Hid madeB sameG;simp[sameB]
 have HC:=Lib.hid (fun W (hb:Below W9.heap.size W9 W)=>lmade_v 0 0 a2 0 c2 [] 7 0 0 a7 0 c7 [] 7 W true HMD.out (i4.mono hb) (i7.mono hb))
 have HB9:=Lib.hid hb3
 clear x0 x1 x2 xl y0 y1 y2 yl z0 z1 z2 zl z70 z71 z72 z7l zf0 zf1 zf2 i2 i3 hf7 hi7 hb3 hbw7
 obtain ⟨y0,y1,y2,yl⟩:=c3_of q4
 obtain ⟨z0,z1,z2,zl⟩:=c3_of g3
 clear q4 g3 i4 i7
 go_wp2_with (first|(go_at_call 24;refine (HC.out _ (Below.refl _ _)).mono ?_;rintro _ w8 ⟨rfl,hbw8⟩)|(go_at_call 20;refine (awake4_c _).mono ?_;rintro _ wz ⟨rfl,hbz⟩)|fail)
 refine bodyPost_ret (v := .bool true) ?_ rfl ⟨rfl,keep_trans HB9.out (show Below W9.heap.size W9 wz by (repeat (first|assumption|exact Below.refl _ _|refine keep_drew ?_|refine keep_alloc ?_ _|refine keep_trans ?_ (by assumption))))⟩
 simp[results,Tryz.f3,go_sem]
theorem lmates_s (r C:Int) (a:Option Addr) (n c:Nat) (w:World) (hg0:¬300<n) (gn:Nat) (X:List Int) (h0:¬5<r)
  (HM:∀W,Below w.heap.size w W→Calls Tryz.prog 21 #[.agg #[.int .i64 r,.int .i64 C,.slice a n c]] W fun e w'=>∃a2 c2,e = .returned (.tuple #[.agg #[.int .i64 r,.int .i64 C,.slice a2 gn c2],.int .i64 0])∧IC w' a2 gn X∧Below W.heap.size W w')
  (HA:∀W,Below w.heap.size w W→Calls Tryz.prog 22 #[.agg #[.int .i64 r,.int .i64 C,.slice a n c]] W fun e w'=>e = .returned (.int .i64 0)∧Below W.heap.size W w')
  (HR:∀W,Below w.heap.size w W→Calls Tryz.prog 23 #[.agg #[.int .i64 r,.int .i64 C,.slice a n c]] W fun e w'=>∃a3 c3,e = .returned (.tuple #[.agg #[.int .i64 r,.int .i64 C,.slice a3 gn c3],.bool true])∧(∀b2 o2,a3=some ⟨b2,o2,none⟩→W.heap.size≤b2)∧IC w' a3 gn X∧Below W.heap.size W w'):Calls Tryz.prog 3 #[.agg #[.int .i64 r,.int .i64 C,.slice a n c]] w fun e w'=>e = .returned (.bool true)∧Below w.heap.size w w':=by
 have hgI0:decide ((300:Int)<(n:Int))=false:=decide_eq_false (by omega)
 have HM:=Lib.hid HM
 have HA:=Lib.hid HA
 have HR:=Lib.hid HR
 have e1:decide ((5:Int)<r)=false:=decide_eq_false h0
 go_enter Tryz.func3,Tryz.ntmps3
 go_upto_region 1 with fail
 have fsz:(w.alloc (.cells #[.int .i64 r,.int .i64 C,.slice a n c] 24)).heap.size=w.heap.size+1:=by simp only[World.size_alloc]
 have fB:Below w.heap.size w (w.alloc (.cells #[.int .i64 r,.int .i64 C,.slice a n c] 24)):=(Below.refl _ _).alloc (Nat.le_refl _) _
 have fq0:(w.alloc (.cells #[.int .i64 r,.int .i64 C,.slice a n c] 24)).heap[w.heap.size]?=some (.cells #[.int .i64 r,.int .i64 C,.slice a n c] 24 (0,0)):=by have h:=World.alloc_heap_new w (.cells #[.int .i64 r,.int .i64 C,.slice a n c] 24);exact h
 generalize (w.alloc (.cells #[.int .i64 r,.int .i64 C,.slice a n c] 24))=W0 at fsz fB fq0 ⊢
 have Q0:=Lib.hid fq0
 have FB:=Lib.hid fB
 obtain ⟨x0,x1,x2,xl⟩:=c3_of fq0
 clear fq0 fsz fB
 go_upto_region 4 with (first|(go_at_call 19;(with_reducible refine (lgreat_c r C a n c 300 _).mono ?_);rintro _ w1 ⟨rfl,hbw1⟩;have hkw1:Below W0.heap.size W0 w1:=(by (repeat (first|assumption|exact Below.refl _ _|refine keep_drew ?_|refine keep_alloc ?_ _|refine keep_trans ?_ (by assumption))));obtain ⟨xw10,xw11,xw12,xw1l⟩:=c3_of (keepq hkw1 Q0.out))|(go_at_call 21;(with_reducible refine (HM.out _ (keep_trans FB.out (by (repeat (first|assumption|exact Below.refl _ _|refine keep_drew ?_|refine keep_alloc ?_ _|refine keep_trans ?_ (by assumption)))))).mono ?_);rintro _ w2 ⟨a2,c2,rfl,hi2,hbw2⟩)|fail)
 have hB2:Below W0.heap.size W0 w2:=by (repeat (first|assumption|exact Below.refl _ _|refine keep_drew ?_|refine keep_alloc ?_ _|refine keep_trans ?_ (by assumption)))
 have gsz:(w2.alloc (.cells #[.int .i64 r,.int .i64 C,.slice a2 gn c2] 24)).heap.size=w2.heap.size+1:=by simp only[World.size_alloc]
 have gB:Below w2.heap.size w2 (w2.alloc (.cells #[.int .i64 r,.int .i64 C,.slice a2 gn c2] 24)):=(Below.refl _ _).alloc (Nat.le_refl _) _
 have gq0:(w2.alloc (.cells #[.int .i64 r,.int .i64 C,.slice a2 gn c2] 24)).heap[w2.heap.size]?=some (.cells #[.int .i64 r,.int .i64 C,.slice a2 gn c2] 24 (0,0)):=by have h:=World.alloc_heap_new w2 (.cells #[.int .i64 r,.int .i64 C,.slice a2 gn c2] 24);exact h
 generalize (w2.alloc (.cells #[.int .i64 r,.int .i64 C,.slice a2 gn c2] 24))=V3 at gsz gB gq0 ⊢
 have Q3:=Lib.hid gq0
 have Q1:=Lib.hid (keepq (keep_trans hB2 gB) Q0.out)
 have HB3:=Lib.hid (keep_trans FB.out (keep_trans hB2 gB))
 have HI3:=Lib.hid (hi2.mono gB)
 have HN2:Hid (∀b2 o2,0<gn→a2=some ⟨b2,o2,none⟩→b2<w2.heap.size):=fun b2 o2 hp e=>by
  obtain ⟨b3,o3,e3,hl,_⟩:=hi2.2 0 hp
  rw[e] at e3
  cases e3
  exact hl
 have hs3:w2.heap.size+1=V3.heap.size:=gsz.symm
 clear gsz gq0 gB hB2 hi2 hbw2 x0 x1 x2 xl xw10 xw11 xw12 xw1l hkw1 hbw1
 obtain ⟨x0,x1,x2,xl⟩:=c3_of Q1.out
 go_upto_region 8 with (first|(go_at_call 22;(with_reducible refine (HA.out _ HB3.out).mono ?_);rintro _ w5 ⟨rfl,hbw5⟩;obtain ⟨x50,x51,x52,x5l⟩:=c3_of (keepq hbw5 Q1.out))|fail)
 have ksz:(w5.alloc (.cells #[.int .i64 0,.int .i64 0,.slice none 0 0] 24)).heap.size=w5.heap.size+1:=by simp only[World.size_alloc]
 have kB:Below w5.heap.size w5 (w5.alloc (.cells #[.int .i64 0,.int .i64 0,.slice none 0 0] 24)):=(Below.refl _ _).alloc (Nat.le_refl _) _
 have kq0:(w5.alloc (.cells #[.int .i64 0,.int .i64 0,.slice none 0 0] 24)).heap[w5.heap.size]?=some (.cells #[.int .i64 0,.int .i64 0,.slice none 0 0] 24 (0,0)):=by have h:=World.alloc_heap_new w5 (.cells #[.int .i64 0,.int .i64 0,.slice none 0 0] 24);exact h
 generalize (w5.alloc (.cells #[.int .i64 0,.int .i64 0,.slice none 0 0] 24))=V6 at ksz kB kq0 ⊢
 have hB6:=keep_trans hbw5 kB
 have Q2:=Lib.hid (keepq hB6 Q1.out)
 have Q4:=Lib.hid (keepq hB6 Q3.out)
 have Q6:=Lib.hid kq0
 have HB6:=Lib.hid (keep_trans HB3.out hB6)
 have HI6:=Lib.hid (HI3.out.mono hB6)
 have hs5:=hbw5.size
 have hs6:w5.heap.size+1=V6.heap.size:=ksz.symm
 clear x0 x1 x2 xl x50 x51 x52 x5l kq0 kB ksz hB6 hbw5
 obtain ⟨x0,x1,x2,xl⟩:=c3_of Q2.out
 obtain ⟨y0,y1,y2,yl⟩:=c3_of Q4.out
 obtain ⟨z0,z1,z2,zl⟩:=c3_of Q6.out
 go_upto_region 11 with (first|(go_at_call 23;refine (HR.out _ HB6.out).mono ?_;rintro _ w7 ⟨a7,c7,rfl,hf7,hi7,hbw7⟩;obtain ⟨z70,z71,z72,z7l⟩:=c3_of (keepq hbw7 Q6.out);obtain ⟨zf0,zf1,zf2⟩:=f3_of (keepq hbw7 Q6.out))|fail)
 have g3:=st3_q (x0 := .int .i64 r) (x1 := .int .i64 C) (x2 := .slice a7 gn c7) (keepq hbw7 Q6.out)
 have hb3:=st3_below (x0 := .int .i64 r) (x1 := .int .i64 C) (x2 := .slice a7 gn c7) (b:=w5.heap.size) (keep_trans HB6.out hbw7) (by have:=HB3.out.size;omega)
 have i2:=((HI6.out.mono hbw7).stays (S:=fun k=>k=w5.heap.size) (Stays.setCell (S:=fun k=>k=w5.heap.size) w7 (p:=⟨w5.heap.size,0,none⟩) rfl (.int .i64 r)) (fun b o hp e e2=>by have:=HN2.out b o hp e;omega))
 have i3:=i2.stays (S:=fun k=>k=w5.heap.size) (Stays.setCell (S:=fun k=>k=w5.heap.size) _ (p:=⟨w5.heap.size,1,none⟩) rfl (.int .i64 C)) (fun b o hp e e2=>by have:=HN2.out b o hp e;omega)
 have i4:=i3.stays (S:=fun k=>k=w5.heap.size) (Stays.setCell (S:=fun k=>k=w5.heap.size) _ (p:=⟨w5.heap.size,2,none⟩) rfl (.slice a7 gn c7)) (fun b o hp e e2=>by have:=HN2.out b o hp e;omega)
 have i7:=hi7.st3 (x0 := .int .i64 r) (x1 := .int .i64 C) (x2 := .slice a7 gn c7) (b:=w5.heap.size) (fun b o e=>by have:=hf7 b o e;omega)
 have q4:=q_other (i:=2) (q_other (i:=1) (q_other (i:=0) (keepq hbw7 Q4.out) (show w2.heap.size≠w5.heap.size by omega) (.int .i64 r)) (show w2.heap.size≠w5.heap.size by omega) (.int .i64 C)) (show w2.heap.size≠w5.heap.size by omega) (.slice a7 gn c7)
 generalize (((w7.setCell ⟨w5.heap.size,0,none⟩ (.int .i64 r)).setCell ⟨w5.heap.size,1,none⟩ (.int .i64 C)).setCell ⟨w5.heap.size,2,none⟩ (.slice a7 gn c7))=W9 at i4 i7 q4 g3 hb3 ⊢
 have HMD:Hid (madeB r C X 0 r C X 0=true):=by unfold Hid madeB sameG;simp[sameB]
 have HC:=Lib.hid (fun W (hb:Below W9.heap.size W9 W)=>lmade_v r C a2 gn c2 X 0 r C a7 gn c7 X 0 W true HMD.out (i4.mono hb) (i7.mono hb))
 have HB9:=Lib.hid hb3
 clear x0 x1 x2 xl y0 y1 y2 yl z0 z1 z2 zl z70 z71 z72 z7l zf0 zf1 zf2 i2 i3 hf7 hi7 hb3 hbw7
 obtain ⟨y0,y1,y2,yl⟩:=c3_of q4
 obtain ⟨z0,z1,z2,zl⟩:=c3_of g3
 clear q4 g3 i4 i7
 go_wp2_with (first|(go_at_call 24;refine (HC.out _ (Below.refl _ _)).mono ?_;rintro _ w8 ⟨rfl,hbw8⟩)|(go_at_call 20;refine (awake4_c _).mono ?_;rintro _ wz ⟨rfl,hbz⟩)|fail)
 refine bodyPost_ret (v := .bool true) ?_ rfl ⟨rfl,keep_trans HB9.out (show Below W9.heap.size W9 wz by (repeat (first|assumption|exact Below.refl _ _|refine keep_drew ?_|refine keep_alloc ?_ _|refine keep_trans ?_ (by assumption))))⟩
 simp[results,Tryz.f3,go_sem]
theorem mateR_len {n:Nat} {l:List Int}:∀{f c:Nat} {m r:List Int},mateR n l f c m=some r→r.length=m.length
 | 0,c,m,r,h=>by unfold mateR at h;cases h;rfl
 | f+1,c,m,r,h=>by
  unfold mateR at h
  obtain ⟨x,_,hx⟩:=List.exists_of_findSome?_eq_some h
  split at hx
  ·cases hx
  ·rw[mateR_len hx,List.length_set]
theorem lmates_c (r C:Int) (a:Option Addr) (n c:Nat) (cs:List Int) (w:World) (h:IC w a n cs) (_hcap:n≤c):Calls Tryz.prog 3 #[.agg #[.int .i64 r,.int .i64 C,.slice a n c]] w fun e w'=>e = .returned (.bool true)∧Below w.heap.size w w':=by
 by_cases g1:300<n
 ·exact lmates_g r C a n c w g1
 have HM:=fun W (hb:Below w.heap.size w W)=>mate_c r C a n c cs W (h.mono hb)
 have HA:=fun W (hb:Below w.heap.size w W)=>rcheck_c r C a n c cs W (h.mono hb)
 by_cases h0:sqE 0 r C cs=0
 ·rw[h0] at HA
  obtain ⟨N,rfl,rfl,L⟩:=sqE_ok h0
  have hN1:=L.pos
  have hN2:=L.le
  by_cases h5:(5:Int)<(N:Int)
  ·have hE:mtE (N:Int) (N:Int) cs=20:=by unfold mtE;rw[h0,decide_eq_true h5];simp[firstL,whenV]
   have hEr:mtEr (N:Int) (N:Int) cs=20:=by unfold mtEr;rw[hE];rfl
   have hL:mtL (N:Int) (N:Int) cs=[]:=by unfold mtL;rw[hE];rfl
   refine lmates_r (N:Int) (N:Int) a n c w g1 h5 (fun W hb=>?_) HA
   have h2:=HM W hb
   rw[hL,hEr] at h2
   refine h2.mono fun e w' hg=>?_
   obtain ⟨a2,c2,he,hi,_,hb2⟩:=gv_of hg (by decide)
   exact ⟨a2,c2,he,hi,hb2⟩
  ·have hE:mtE (N:Int) (N:Int) cs=0:=by unfold mtE;rw[h0,decide_eq_false h5];simp[firstL,whenV]
   have hn:n=N*N:=by rw[← h.len];exact L.len
   subst hn
   have HR:=fun W (hb:Below w.heap.size w W)=>rMate_c N a c cs W (h.mono hb) hN1 hN2
   cases ho:mtO N cs with
   | none =>
    have hEr:mtEr (N:Int) (N:Int) cs=7:=by unfold mtEr;rw[if_pos hE,show ((N:Int)).toNat=N from rfl,ho];rfl
    have hL:mtL (N:Int) (N:Int) cs=[]:=by unfold mtL;rw[if_pos hE,show ((N:Int)).toNat=N from rfl,ho];rfl
    refine lmates_n (N:Int) (N:Int) a (N*N) c w g1 h5 (fun W hb=>?_) HA (fun W hb=>?_)
    ·have h2:=HM W hb
     rw[hL,hEr] at h2
     refine h2.mono fun e w' hg=>?_
     obtain ⟨a2,c2,he,hi,_,hb2⟩:=gv_of hg (by decide)
     exact ⟨a2,c2,he,hi,hb2⟩
    ·have h2:=HR W hb
     rw[ho] at h2
     refine h2.mono fun e w' hg=>?_
     exact ⟨none,0,hg.1,fun b o e=>(by cases e),⟨⟨rfl,by omega⟩,fun k hk=>absurd hk (by omega)⟩,hg.2⟩
   | some X =>
    have hEr:mtEr (N:Int) (N:Int) cs=0:=by unfold mtEr;rw[if_pos hE,show ((N:Int)).toNat=N from rfl,ho];rfl
    have hL:mtL (N:Int) (N:Int) cs=X:=by unfold mtL;rw[if_pos hE,show ((N:Int)).toNat=N from rfl,ho];rfl
    have hX:X.length=N*N:=by
     have h3:=ho
     rw[rmtO_eq] at h3
     rw[mateR_len h3,List.length_replicate]
    have hmm:N*N≤16*16:=Nat.mul_le_mul hN2 hN2
    refine lmates_s (N:Int) (N:Int) a (N*N) c w g1 (N*N) X h5 (fun W hb=>?_) HA (fun W hb=>?_)
    ·have h2:=HM W hb
     rw[hL,hEr] at h2
     refine h2.mono fun e w' hg=>?_
     obtain ⟨a2,c2,he,hi,_,hb2⟩:=gv_of hg (by omega)
     rw[hX] at he hi
     exact ⟨a2,c2,he,hi,hb2⟩
    ·have h2:=HR W hb
     rw[ho] at h2
     refine h2.mono fun e w' hg=>?_
     obtain ⟨g,he,hgl,hi,hb2⟩:=hg
     exact ⟨some ⟨g,0,none⟩,N*N,he,fun b o e=>(by cases e;exact hgl),hi,hb2⟩
 ·have hE:mtE r C cs=sqE 0 r C cs:=by unfold mtE;simp[firstL,h0]
  have hEr:mtEr r C cs=sqE 0 r C cs:=by unfold mtEr;rw[if_neg (by rw[hE];exact h0),hE]
  have hL:mtL r C cs=[]:=by unfold mtL;rw[if_neg (by rw[hE];exact h0)]
  refine lmates_a r C a n c w g1 _ h0 (fun W hb=>?_) HA
  have h2:=HM W hb
  rw[hL,hEr,if_neg h0] at h2
  refine h2.mono fun e w' hg=>?_
  obtain ⟨a2,c2,he,hi,_,hb2⟩:=gv_of hg (by decide)
  exact ⟨a2,c2,he,hi,hb2⟩
end
end Go.Proofs.YtmfpdakaeagdpaaGreat
