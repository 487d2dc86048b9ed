/- Texts J154 to J154 of this proof, in one file. -/
import Derived.Test.YtmfpdakaeagdpaaGreatW01
import Derived.Test.YtmfpdakaeagdpaaGreatW02
import Derived.Test.YtmfpdakaeagdpaaGreatW03
import Derived.Test.YtmfpdakaeagdpaaGreatW04
import Derived.Test.YtmfpdakaeagdpaaGreatW05
import Derived.Test.YtmfpdakaeagdpaaGreatW06
import Derived.Test.YtmfpdakaeagdpaaGreatW07
import Derived.Test.YtmfpdakaeagdpaaGreatW08
import Derived.Test.YtmfpdakaeagdpaaGreatW09
import Derived.Test.YtmfpdakaeagdpaaGreatW10
import Derived.Test.YtmfpdakaeagdpaaGreatW11
import Derived.Test.YtmfpdakaeagdpaaGreatW12
import Derived.Test.YtmfpdakaeagdpaaGreatW13
import Derived.Test.YtmfpdakaeagdpaaGreatW14
import Derived.Test.YtmfpdakaeagdpaaGreatW15
import Derived.Test.YtmfpdakaeagdpaaGreatW16
import Derived.Test.YtmfpdakaeagdpaaGreatW17
import Derived.Test.YtmfpdakaeagdpaaGreatW18
import Derived.Test.YtmfpdakaeagdpaaGreatW19
import Derived.Test.YtmfpdakaeagdpaaGreatW20
import Derived.Test.YtmfpdakaeagdpaaGreatW21
import Derived.Test.YtmfpdakaeagdpaaGreatW22
import Derived.Test.YtmfpdakaeagdpaaGreatW23
import Derived.Test.YtmfpdakaeagdpaaGreatW24
import Derived.Test.YtmfpdakaeagdpaaGreatW25
import Derived.Test.YtmfpdakaeagdpaaGreatW26
import Derived.Test.YtmfpdakaeagdpaaGreatW27
import Derived.Test.YtmfpdakaeagdpaaGreatX29n01
import Derived.Test.YtmfpdakaeagdpaaGreatX29n02
import Derived.Test.YtmfpdakaeagdpaaGreatX29n03
import Derived.Test.YtmfpdakaeagdpaaGreatX29n04
import Derived.Test.YtmfpdakaeagdpaaGreatX29n05
import Derived.Test.YtmfpdakaeagdpaaGreatX29n06
import Derived.Test.YtmfpdakaeagdpaaGreatX29n07
import Derived.Below
import Derived.BigFrame
import Derived.BigQuiet
import Derived.Deep.CutBlock
import Derived.Deep.CutRange
import Derived.Deep.LoopGhost
import Derived.Deep.Quiet
import Derived.Deep.RegionHeld3
import Derived.DeepKeys4
import Derived.KernelRfl
import Derived.Laws.BitsAllLaws
import Derived.Laws.EntriesVeiled
import Derived.Lib.AppendZeros
import Derived.Lib.Hide
import Derived.Lib.SlKeysI
import Derived.Lib.SliceRun
import Derived.LoopIn
import Derived.LoopNIn
import Derived.Maps.AppendAt
import Derived.Maps.OwnIn
import Derived.Maps.OwnSet
import Derived.OneCell
import Derived.OrdersHeld
import Derived.OrdersIn
import Derived.OwnWalkIn
import Derived.RangeFuncBound
import Derived.RangeFuncBox
import Derived.RangeFuncCalls
import Derived.RangeFuncLeaves
import Derived.RangeFuncNested
import Derived.RangeFuncWrites
import Derived.Shelf.Abstract
import Derived.Shelf.SortM.Plain
import Derived.Still
import Derived.TacticsIn
import Derived.TacticsInMore
import Derived.Test.YtmfpdakaeagdpaaGreatProg
import Derived.WalkKit
import Derived.WalkLawsBesides
import Derived.WalkSpells
import Derived.WideKeyPair
namespace Go.Proofs.YtmfpdakaeagdpaaGreat
set_option maxRecDepth 100000
set_option maxHeartbeats 16000000
section
open Go Go.RowKit
attribute [local go_sem] over_cell
attribute [local go_sem] Oper.semAt_some
theorem lcounts_g0 (r C:Int) (a:Option Addr) (n c:Nat) (r2 C2:Int) (a2:Option Addr) (n2 c2:Nat) (m:Int) (w:World) (h0:100<n):Calls Tryz.prog 14 #[.agg #[.int .i64 r,.int .i64 C,.slice a n c],.agg #[.int .i64 r2,.int .i64 C2,.slice a2 n2 c2],.int .i64 m] w fun e w'=>e = .returned (.bool true)∧Below w.heap.size w w':=by
 have hg0:decide ((100:Int)<(n:Int))=true:=decide_eq_true (by omega)
 go_enter Tryz.func14,Tryz.ntmps14
 go_upto_region 1 with fail
 have fsz:((w.alloc (.cells #[.int .i64 r,.int .i64 C,.slice a n c] 24)).alloc (.cells #[.int .i64 r2,.int .i64 C2,.slice a2 n2 c2] 24)).heap.size=w.heap.size+2:=by simp only[World.size_alloc] <;> omega
 have fB:Below w.heap.size w ((w.alloc (.cells #[.int .i64 r,.int .i64 C,.slice a n c] 24)).alloc (.cells #[.int .i64 r2,.int .i64 C2,.slice a2 n2 c2] 24)):=((Below.refl _ _).alloc (Nat.le_refl _) _).alloc (by simp only[World.size_alloc];omega) _
 have fq0:((w.alloc (.cells #[.int .i64 r,.int .i64 C,.slice a n c] 24)).alloc (.cells #[.int .i64 r2,.int .i64 C2,.slice a2 n2 c2] 24)).heap[w.heap.size]?=some (.cells #[.int .i64 r,.int .i64 C,.slice a n c] 24 (0,0)):=by have h:=World.alloc_heap_new w (.cells #[.int .i64 r,.int .i64 C,.slice a n c] 24);exact (Below.heap_alloc _ _ _ (by simp only[World.size_alloc];omega)).trans (h)
 have fq1:((w.alloc (.cells #[.int .i64 r,.int .i64 C,.slice a n c] 24)).alloc (.cells #[.int .i64 r2,.int .i64 C2,.slice a2 n2 c2] 24)).heap[w.heap.size+1]?=some (.cells #[.int .i64 r2,.int .i64 C2,.slice a2 n2 c2] 24 (0,0)):=by have h:=World.alloc_heap_new (w.alloc (.cells #[.int .i64 r,.int .i64 C,.slice a n c] 24)) (.cells #[.int .i64 r2,.int .i64 C2,.slice a2 n2 c2] 24);simp only[World.size_alloc] at h;exact h
 generalize ((w.alloc (.cells #[.int .i64 r,.int .i64 C,.slice a n c] 24)).alloc (.cells #[.int .i64 r2,.int .i64 C2,.slice a2 n2 c2] 24))=W0 at fsz fB fq0 fq1 ⊢
 have Q0:=Lib.hid fq0
 have Q1:=Lib.hid fq1
 have FB:=Lib.hid fB
 obtain ⟨x0,x1,x2,xl⟩:=c3_of Q0.out
 obtain ⟨y0,y1,y2,yl⟩:=c3_of Q1.out
 clear fq0 fq1 fsz fB
 go_wp2_with (first|(go_at_call 19;(with_reducible refine (lgreat_c r C a n c 100 _).mono ?_);rintro _ g1 ⟨rfl,hbg1⟩;have hkg1:Below W0.heap.size W0 g1:=hbg1;obtain ⟨xg10,xg11,xg12,xg1l⟩:=c3_of (keepq hkg1 Q0.out);obtain ⟨yg10,yg11,yg12,yg1l⟩:=c3_of (keepq hkg1 Q1.out))|(go_at_call 20;refine (awake4_c _).mono ?_;rintro _ wz ⟨rfl,hbz⟩)|fail)
 refine bodyPost_ret (v := .bool true) ?_ rfl ⟨rfl,keep_trans FB.out (keep_trans hkg1 hbz)⟩
 simp[results,Tryz.f14,go_sem]
theorem lcounts_g1 (r C:Int) (a:Option Addr) (n c:Nat) (r2 C2:Int) (a2:Option Addr) (n2 c2:Nat) (m:Int) (w:World) (h0:¬100<n) (h1:100<n2):Calls Tryz.prog 14 #[.agg #[.int .i64 r,.int .i64 C,.slice a n c],.agg #[.int .i64 r2,.int .i64 C2,.slice a2 n2 c2],.int .i64 m] w fun e w'=>e = .returned (.bool true)∧Below w.heap.size w w':=by
 have hg0:decide ((100:Int)<(n:Int))=false:=decide_eq_false (by omega)
 have hg1:decide ((100:Int)<(n2:Int))=true:=decide_eq_true (by omega)
 go_enter Tryz.func14,Tryz.ntmps14
 go_upto_region 1 with fail
 have fsz:((w.alloc (.cells #[.int .i64 r,.int .i64 C,.slice a n c] 24)).alloc (.cells #[.int .i64 r2,.int .i64 C2,.slice a2 n2 c2] 24)).heap.size=w.heap.size+2:=by simp only[World.size_alloc] <;> omega
 have fB:Below w.heap.size w ((w.alloc (.cells #[.int .i64 r,.int .i64 C,.slice a n c] 24)).alloc (.cells #[.int .i64 r2,.int .i64 C2,.slice a2 n2 c2] 24)):=((Below.refl _ _).alloc (Nat.le_refl _) _).alloc (by simp only[World.size_alloc];omega) _
 have fq0:((w.alloc (.cells #[.int .i64 r,.int .i64 C,.slice a n c] 24)).alloc (.cells #[.int .i64 r2,.int .i64 C2,.slice a2 n2 c2] 24)).heap[w.heap.size]?=some (.cells #[.int .i64 r,.int .i64 C,.slice a n c] 24 (0,0)):=by have h:=World.alloc_heap_new w (.cells #[.int .i64 r,.int .i64 C,.slice a n c] 24);exact (Below.heap_alloc _ _ _ (by simp only[World.size_alloc];omega)).trans (h)
 have fq1:((w.alloc (.cells #[.int .i64 r,.int .i64 C,.slice a n c] 24)).alloc (.cells #[.int .i64 r2,.int .i64 C2,.slice a2 n2 c2] 24)).heap[w.heap.size+1]?=some (.cells #[.int .i64 r2,.int .i64 C2,.slice a2 n2 c2] 24 (0,0)):=by have h:=World.alloc_heap_new (w.alloc (.cells #[.int .i64 r,.int .i64 C,.slice a n c] 24)) (.cells #[.int .i64 r2,.int .i64 C2,.slice a2 n2 c2] 24);simp only[World.size_alloc] at h;exact h
 generalize ((w.alloc (.cells #[.int .i64 r,.int .i64 C,.slice a n c] 24)).alloc (.cells #[.int .i64 r2,.int .i64 C2,.slice a2 n2 c2] 24))=W0 at fsz fB fq0 fq1 ⊢
 have Q0:=Lib.hid fq0
 have Q1:=Lib.hid fq1
 have FB:=Lib.hid fB
 obtain ⟨x0,x1,x2,xl⟩:=c3_of Q0.out
 obtain ⟨y0,y1,y2,yl⟩:=c3_of Q1.out
 clear fq0 fq1 fsz fB
 go_wp2_with (first|(go_at_call 19;(with_reducible refine (lgreat_c r C a n c 100 _).mono ?_);rintro _ g1 ⟨rfl,hbg1⟩;have hkg1:Below W0.heap.size W0 g1:=hbg1;obtain ⟨xg10,xg11,xg12,xg1l⟩:=c3_of (keepq hkg1 Q0.out);obtain ⟨yg10,yg11,yg12,yg1l⟩:=c3_of (keepq hkg1 Q1.out))|(go_at_call 19;(with_reducible refine (lgreat_c r2 C2 a2 n2 c2 100 _).mono ?_);rintro _ g2 ⟨rfl,hbg2⟩;have hkg2:Below W0.heap.size W0 g2:=keep_trans hkg1 hbg2;obtain ⟨xg20,xg21,xg22,xg2l⟩:=c3_of (keepq hkg2 Q0.out);obtain ⟨yg20,yg21,yg22,yg2l⟩:=c3_of (keepq hkg2 Q1.out))|(go_at_call 20;refine (awake4_c _).mono ?_;rintro _ wz ⟨rfl,hbz⟩)|fail)
 refine bodyPost_ret (v := .bool true) ?_ rfl ⟨rfl,keep_trans FB.out (keep_trans hkg2 hbz)⟩
 simp[results,Tryz.f14,go_sem]
@[reducible] def cH (w:World) (f:Nat) (args:Array Value) (v:Value):Prop:=∀W,Below w.heap.size w W→Calls Tryz.prog f args W fun e w'=>e = .returned v∧Below W.heap.size W w'
@[reducible] def cH1 (w:World) (args:Array Value) (R1:Int) (k1:Nat) (X1:List Int) (er1:Int):Prop:=∀W,Below w.heap.size w W→Calls Tryz.prog 71 args W fun e w'=>∃a4 c4,e = .returned (.tuple #[.agg #[.int .i64 R1,.int .i64 R1,.slice a4 k1 c4],.int .i64 er1])∧IC w' a4 k1 X1∧Below W.heap.size W w'
@[reducible] def cH3 (w:World) (args:Array Value) (k5:Nat) (lA:List ByteArray) (ea:Int):Prop:=∀W,Below w.heap.size w W→Calls Tryz.prog 72 args W fun e w'=>∃a5 c5,e = .returned (.tuple #[.slice a5 k5 c5,.int .i64 ea])∧SC w' a5 k5 lA∧Below W.heap.size W w'
@[reducible] def cH4 (w:World) (m er4:Int) (NN k6:Nat) (css:List (List Int)):Prop:=∀W,Below w.heap.size w W→Calls Tryz.prog 75 #[.int .i64 m] W fun e w'=>∃a6 c6,e = .returned (.tuple #[.slice a6 k6 c6,.int .i64 er4])∧GL w' a6 k6 NN css∧Below W.heap.size W w'
@[reducible] def cH8 (w:World) (m:Int) (NN k6:Nat) (css:List (List Int)):Prop:=∀W,Below w.heap.size w W→Calls Tryz.prog 76 #[.int .i64 m] W fun e w'=>∃a7 c7,e = .returned (.slice a7 k6 c7)∧GL w' a7 k6 NN css∧Below W.heap.size W w'
@[reducible] def cHR (w:World) (args:Array Value) (K:Int) (z2:Nat) (Y2:List Int):Prop:=∀W,Below w.heap.size w W→Calls Tryz.prog 77 args W fun e w'=>∃a7 c7,e = .returned (.agg #[.int .i64 K,.int .i64 K,.slice a7 z2 c7])∧(∀b2 o2,a7=some ⟨b2,o2,none⟩→W.heap.size≤b2)∧IC w' a7 z2 Y2∧Below W.heap.size W w'
@[reducible] def cHN (w:World) (args:Array Value) (k5:Nat) (lA:List ByteArray):Prop:=∀W,Below w.heap.size w W→Calls Tryz.prog 78 args W fun e w'=>∃a8 c8,e = .returned (.slice a8 k5 c8)∧SC w' a8 k5 lA∧Below W.heap.size W w'
theorem lcounts_A (r C:Int) (a:Option Addr) (n c:Nat) (r2 C2:Int) (a2:Option Addr) (n2 c2:Nat) (m:Int) (w:World) (h0:¬100<n) (h1:¬100<n2) (R1:Int) (k1:Nat) (X1:List Int) (er1:Int) (o er4:Int) (NN k6:Nat) (css:List (List Int)) (hk6:k6≤100000) (hc4:(o≠0∧er4=o)∨(o=0∧5<m∧er4=20)∨(o=0∧¬5<m∧er4=0)) (hz4:er4≠0→k6=0∧css=[]) (ea:Int) (hea:ea≠0) (hm1:madeB R1 R1 X1 er1 0 0 [] ea=true)
 (H1:cH1 w #[.agg #[.int .i64 r,.int .i64 C,.slice a n c],.agg #[.int .i64 r2,.int .i64 C2,.slice a2 n2 c2]] R1 k1 X1 er1) (H2:cH w 74 #[.agg #[.int .i64 r,.int .i64 C,.slice a n c]] (.tuple #[.int .i64 0,.int .i64 ea])) (H3:cH3 w #[.agg #[.int .i64 r,.int .i64 C,.slice a n c]] 0 [] ea) (H4:cH4 w m er4 NN k6 css) (H8:er4=0→cH8 w m NN k6 css) (H5:∀W,Calls Tryz.prog 59 #[.int .i64 m] W fun e w'=>e = .returned (.int .i64 o)∧Below W.heap.size W w') (HA:cH w 22 #[.agg #[.int .i64 r,.int .i64 C,.slice a n c]] (.int .i64 ea)):Calls Tryz.prog 14 #[.agg #[.int .i64 r,.int .i64 C,.slice a n c],.agg #[.int .i64 r2,.int .i64 C2,.slice a2 n2 c2],.int .i64 m] w fun e w'=>e = .returned (.bool true)∧Below w.heap.size w w':=by
 have hg0:decide ((100:Int)<(n:Int))=false:=decide_eq_false (by omega)
 have hg1:decide ((100:Int)<(n2:Int))=false:=decide_eq_false (by omega)
 have e2:(er4 != er4)=false:=by simp
 have e3:(ea==0)=false:=by simpa using hea
 have e4:(ea != 0)=true:=by simpa using hea
 have e5:(ea==ea)=true:=by simp
 clear hea
 have H1:=Lib.hid H1
 have H2:=Lib.hid H2
 have H3:=Lib.hid H3
 have H4:=Lib.hid H4
 have H5:=Lib.hid H5
 have HA:=Lib.hid HA
 have hm1:=Lib.hid hm1
 have H8:=Lib.hid H8
 have hk6:=Lib.hid hk6
 have hc4:=Lib.hid hc4
 have hz4:=Lib.hid hz4
 go_enter Tryz.func14,Tryz.ntmps14
 go_upto_region 1 with fail
 have fsz:((w.alloc (.cells #[.int .i64 r,.int .i64 C,.slice a n c] 24)).alloc (.cells #[.int .i64 r2,.int .i64 C2,.slice a2 n2 c2] 24)).heap.size=w.heap.size+2:=by simp only[World.size_alloc] <;> omega
 have fB:Below w.heap.size w ((w.alloc (.cells #[.int .i64 r,.int .i64 C,.slice a n c] 24)).alloc (.cells #[.int .i64 r2,.int .i64 C2,.slice a2 n2 c2] 24)):=((Below.refl _ _).alloc (Nat.le_refl _) _).alloc (by simp only[World.size_alloc];omega) _
 have fq0:((w.alloc (.cells #[.int .i64 r,.int .i64 C,.slice a n c] 24)).alloc (.cells #[.int .i64 r2,.int .i64 C2,.slice a2 n2 c2] 24)).heap[w.heap.size]?=some (.cells #[.int .i64 r,.int .i64 C,.slice a n c] 24 (0,0)):=by have h:=World.alloc_heap_new w (.cells #[.int .i64 r,.int .i64 C,.slice a n c] 24);exact (Below.heap_alloc _ _ _ (by simp only[World.size_alloc];omega)).trans (h)
 have fq1:((w.alloc (.cells #[.int .i64 r,.int .i64 C,.slice a n c] 24)).alloc (.cells #[.int .i64 r2,.int .i64 C2,.slice a2 n2 c2] 24)).heap[w.heap.size+1]?=some (.cells #[.int .i64 r2,.int .i64 C2,.slice a2 n2 c2] 24 (0,0)):=by have h:=World.alloc_heap_new (w.alloc (.cells #[.int .i64 r,.int .i64 C,.slice a n c] 24)) (.cells #[.int .i64 r2,.int .i64 C2,.slice a2 n2 c2] 24);simp only[World.size_alloc] at h;exact h
 generalize ((w.alloc (.cells #[.int .i64 r,.int .i64 C,.slice a n c] 24)).alloc (.cells #[.int .i64 r2,.int .i64 C2,.slice a2 n2 c2] 24))=W0 at fsz fB fq0 fq1 ⊢
 have Q0:=Lib.hid fq0
 have Q1:=Lib.hid fq1
 have FB:=Lib.hid fB
 obtain ⟨x0,x1,x2,xl⟩:=c3_of Q0.out
 obtain ⟨y0,y1,y2,yl⟩:=c3_of Q1.out
 clear fq0 fq1 fsz fB
 go_upto_region 4 with (first|(go_at_call 19;(with_reducible refine (lgreat_c r C a n c 100 _).mono ?_);rintro _ g1 ⟨rfl,hbg1⟩;have hkg1:Below W0.heap.size W0 g1:=hbg1;obtain ⟨xg10,xg11,xg12,xg1l⟩:=c3_of (keepq hkg1 Q0.out);obtain ⟨yg10,yg11,yg12,yg1l⟩:=c3_of (keepq hkg1 Q1.out))|(go_at_call 19;(with_reducible refine (lgreat_c r2 C2 a2 n2 c2 100 _).mono ?_);rintro _ g2 ⟨rfl,hbg2⟩;have hkg2:Below W0.heap.size W0 g2:=keep_trans hkg1 hbg2;obtain ⟨xg20,xg21,xg22,xg2l⟩:=c3_of (keepq hkg2 Q0.out);obtain ⟨yg20,yg21,yg22,yg2l⟩:=c3_of (keepq hkg2 Q1.out))|(go_at_call 71;(with_reducible refine (H1.out _ (keep_trans FB.out hkg2)).mono ?_);rintro _ u0 ⟨a4,c4,rfl,hi4,hbu0⟩;have hku0:Below W0.heap.size W0 u0:=keep_trans hkg2 hbu0)|fail)
 have gsz:(u0.alloc (.cells #[.int .i64 R1,.int .i64 R1,.slice a4 k1 c4] 24)).heap.size=u0.heap.size+1:=by simp only[World.size_alloc]
 have gB:Below u0.heap.size u0 (u0.alloc (.cells #[.int .i64 R1,.int .i64 R1,.slice a4 k1 c4] 24)):=(Below.refl _ _).alloc (Nat.le_refl _) _
 have gq0:(u0.alloc (.cells #[.int .i64 R1,.int .i64 R1,.slice a4 k1 c4] 24)).heap[u0.heap.size]?=some (.cells #[.int .i64 R1,.int .i64 R1,.slice a4 k1 c4] 24 (0,0)):=by have h:=World.alloc_heap_new u0 (.cells #[.int .i64 R1,.int .i64 R1,.slice a4 k1 c4] 24);exact h
 generalize (u0.alloc (.cells #[.int .i64 R1,.int .i64 R1,.slice a4 k1 c4] 24))=V1 at gsz gB gq0 ⊢
 have hkk:=keep_trans hku0 gB
 have N0:=Lib.hid (keepq hkk Q0.out)
 have N1:=Lib.hid (keepq hkk Q1.out)
 have HB1:=Lib.hid (keep_trans FB.out hkk)
 have N7:=Lib.hid gq0
 have I4:=Lib.hid (hi4.mono gB)
 clear gsz gq0 gB hkk hbu0 hku0 hi4 x0 x1 x2 xl y0 y1 y2 yl hbg1 hkg1 xg10 xg11 xg12 xg1l yg10 yg11 yg12 yg1l hbg2 hkg2 xg20 xg21 xg22 xg2l yg20 yg21 yg22 yg2l Q0 Q1
 obtain ⟨x0,x1,x2,xl⟩:=c3_of N0.out
 obtain ⟨y0,y1,y2,yl⟩:=c3_of N1.out
 go_upto_region 7 with (first|(go_at_call 74;(with_reducible refine (H2.out _ HB1.out).mono ?_);rintro _ t2 ⟨rfl,hbt2⟩;have hkt2:Below V1.heap.size V1 t2:=hbt2;obtain ⟨xt20,xt21,xt22,xt2l⟩:=c3_of (keepq hkt2 N0.out))|(go_at_call 72;(with_reducible refine (H3.out _ (keep_trans HB1.out hkt2)).mono ?_);rintro _ t3 ⟨a5,c5,rfl,sc5,hbt3⟩;have hkt3:Below V1.heap.size V1 t3:=keep_trans hkt2 hbt3;obtain ⟨xt30,xt31,xt32,xt3l⟩:=c3_of (keepq hkt3 N0.out))|(go_at_call 75;(with_reducible refine (H4.out _ (keep_trans HB1.out hkt3)).mono ?_);rintro _ t4 ⟨a6,c6,rfl,gl6,hbt4⟩;have hkt4:Below V1.heap.size V1 t4:=keep_trans hkt3 hbt4;obtain ⟨xt40,xt41,xt42,xt4l⟩:=c3_of (keepq hkt4 N0.out))|fail)
 have S5:=Lib.hid (sc5.mono hbt4)
 have Q0:=Lib.hid (keepq hkt4 N0.out)
 have Q1:=Lib.hid (keepq hkt4 N1.out)
 have Q7:=Lib.hid (keepq hkt4 N7.out)
 have HB2:=Lib.hid (keep_trans HB1.out hkt4)
 have J4:=Lib.hid (I4.out.mono hkt4)
 have G6:=Lib.hid gl6
 clear gl6
 clear sc5 x0 x1 x2 xl y0 y1 y2 yl hbt2 hkt2 xt20 xt21 xt22 xt2l hbt3 hkt3 xt30 xt31 xt32 xt3l hbt4 hkt4 xt40 xt41 xt42 xt4l N0 N1 N7 HB1 I4
 obtain ⟨x0,x1,x2,xl⟩:=c3_of Q0.out
 obtain ⟨y0,y1,y2,yl⟩:=c3_of Q1.out
 go_upto_region 8 with (first|(go_at_call 59;(with_reducible refine (H5.out _).mono ?_);rintro _ s1 ⟨rfl,hbs1⟩;have hks1:Below t4.heap.size t4 s1:=hbs1;obtain ⟨xs10,xs11,xs12,xs1l⟩:=c3_of (keepq hks1 Q0.out);obtain ⟨ys10,ys11,ys12,ys1l⟩:=c3_of (keepq hks1 Q1.out))|fail)
 obtain ⟨bb,hbb⟩:∃bb:Bool,bb=((o==0)&&decide (5<m)):=⟨_,rfl⟩
 have HBB:=Lib.hid hbb
 have HBE:Hid ((bb=true∧er4=20)∨(bb=false∧er4=o)):=by
  rcases hc4.out with ⟨h,e⟩|⟨h,h5,e⟩|⟨h,h5,e⟩
  ·exact .inr ⟨by rw[hbb,show (o==0)=false by simpa using h];rfl,e⟩
  ·exact .inl ⟨by rw[hbb,h,decide_eq_true h5];rfl,e⟩
  ·exact .inr ⟨by rw[hbb,decide_eq_false (show ¬5<m by omega),Bool.and_false],by rw[e,h]⟩
 clear hbb
 go_cut [56] from 49 to 69 (fun s56 wx=>s56 = .bool bb∧wx=s1)
 case first =>
  cases h8:(o==0) with
  | true =>
   have hb9:Hid (bb=decide (5<m)):=by unfold Hid;rw[HBB.out,h8];rfl
   go_wp2_with fail
   go_meet
   case rel=>exact ⟨by rw[hb9.out],rfl⟩
  | false =>
   have hb9:Hid (bb=false):=by unfold Hid;rw[HBB.out,h8];rfl
   go_wp2_with fail
   go_meet
   case rel=>exact ⟨by rw[hb9.out],rfl⟩
 obtain ⟨rfl,hwc⟩:=hcut
 replace hwc:=hwc.symm
 subst hwc
 go_upto_if 56 with (fail)
 go_cut [15] from 49 to 69 (fun s15 wx=>s15 = .int .i64 er4∧wx=s1)
 case first =>
  rcases HBE.out with ⟨h,e⟩|⟨h,e⟩
  ·have E:=Lib.hid e
   subst h
   clear e HBB HBE
   go_wp2_with fail
   go_meet
   case rel=>exact ⟨by rw[E.out],rfl⟩
  ·have E:=Lib.hid e
   subst h
   clear e HBB HBE
   go_wp2_with fail
   go_meet
   case rel=>exact ⟨by rw[E.out],rfl⟩
 obtain ⟨rfl,hwc⟩:=hcut
 replace hwc:=hwc.symm
 subst hwc
 go_upto_if 58 with (fail)
 go_cut [16] from 49 to 69 (fun s16 wx=>∃a7 c7,s16 = .slice a7 k6 c7∧Hid (GL wx a7 k6 NN css)∧Hid (Below t4.heap.size t4 wx))
 case first =>
  by_cases he:er4=0
  ·have H8b:=Lib.hid (H8.out he)
   have e1:(er4==0)=true:=by simpa using he
   clear he
   go_wp2_with (first|(go_at_call 76;(with_reducible refine (H8b.out _ (keep_trans HB2.out hks1)).mono ?_);rintro _ s2 ⟨a7,c7,rfl,gl7,hbs2⟩;have hks2:Below t4.heap.size t4 s2:=keep_trans hks1 hbs2)|fail)
   go_meet
   case rel=>exact ⟨a7,c7,rfl,gl7,hks2⟩
  ·obtain ⟨hk0,hcs⟩:=hz4.out he
   have e1:(er4==0)=false:=by simpa using he
   clear he
   go_wp2_with fail
   go_meet
   case rel=>exact ⟨none,0,by rw[hk0],by rw[hk0,hcs];exact ⟨⟨rfl,by omega⟩,fun k hk=>absurd hk (by omega)⟩,hks1⟩
 obtain ⟨a7,c7,rfl,gl7,hbc⟩:=hcut
 have gl7:=gl7.out
 have hks2:=hbc.out
 clear x0 x1 x2 xl y0 y1 y2 yl hbs1 hks1 xs10 xs11 xs12 xs1l ys10 ys11 ys12 ys1l
 obtain ⟨x0,x1,x2,xl⟩:=c3_of (keepq hks2 Q0.out)
 obtain ⟨y0,y1,y2,yl⟩:=c3_of (keepq hks2 Q1.out)
 go_upto_region 15 with (first|(go_at_call 29;(with_reducible refine (lgrids_t a6 k6 c6 NN css a7 c7 _ (G6.out.below hks2) gl7 hk6.out).mono ?_);rintro _ s3 ⟨rfl,hbs3⟩;have hks3:Below t4.heap.size t4 s3:=keep_trans hks2 hbs3;obtain ⟨xs30,xs31,xs32,xs3l⟩:=c3_of (keepq hks3 Q0.out);obtain ⟨ys30,ys31,ys32,ys3l⟩:=c3_of (keepq hks3 Q1.out))|fail)
 go_upto_region 22 with (first|(go_at_call 22;(with_reducible refine (HA.out _ (keep_trans HB2.out hks3)).mono ?_);rintro _ s4 ⟨rfl,hbs4⟩;have hks4:Below t4.heap.size t4 s4:=keep_trans hks3 hbs4;obtain ⟨xs40,xs41,xs42,xs4l⟩:=c3_of (keepq hks4 Q0.out);obtain ⟨ys40,ys41,ys42,ys4l⟩:=c3_of (keepq hks4 Q1.out))|fail)
 have fsz:(s4.alloc (.cells #[.int .i64 0,.int .i64 0,.slice none 0 0] 24)).heap.size=s4.heap.size+1:=by simp only[World.size_alloc]
 have fB:Below s4.heap.size s4 (s4.alloc (.cells #[.int .i64 0,.int .i64 0,.slice none 0 0] 24)):=(Below.refl _ _).alloc (Nat.le_refl _) _
 have fq0:(s4.alloc (.cells #[.int .i64 0,.int .i64 0,.slice none 0 0] 24)).heap[s4.heap.size]?=some (.cells #[.int .i64 0,.int .i64 0,.slice none 0 0] 24 (0,0)):=by have h:=World.alloc_heap_new s4 (.cells #[.int .i64 0,.int .i64 0,.slice none 0 0] 24);exact h
 generalize (s4.alloc (.cells #[.int .i64 0,.int .i64 0,.slice none 0 0] 24))=V6 at fsz fB fq0 ⊢
 have HV6:=Lib.hid (keep_trans hks4 fB)
 have HS6:Hid (t4.heap.size≤s4.heap.size):=hks4.size
 have QU:=Lib.hid fq0
 clear fq0 fsz fB
 go_upto_region 24 with fail
 clear x0 x1 x2 xl y0 y1 y2 yl
 have HV7:=HV6
 have QU7:=QU
 have IU7:Hid (IC V6 none 0 []):=⟨⟨rfl,by omega⟩,fun k hk=>absurd hk (by omega)⟩
 have F0:=Lib.hid (keepq HV7.out Q0.out)
 have F7:=Lib.hid (keepq HV7.out Q7.out)
 have HB8:=Lib.hid (keep_trans HB2.out HV7.out)
 have FI4:=Lib.hid (J4.out.mono HV7.out)
 have S7:=Lib.hid (S5.out.mono HV7.out)
 have M1:=Lib.hid (fun W (hb:Below V6.heap.size V6 W)=>lmade_v R1 R1 a4 k1 c4 X1 er1 0 0 none 0 0 [] ea W true hm1.out (FI4.out.mono hb) (IU7.out.mono hb))
 obtain ⟨x0,x1,x2,xl⟩:=c3_of F0.out
 obtain ⟨y0,y1,y2,yl⟩:=c3_of F7.out
 obtain ⟨z0,z1,z2,zl⟩:=c3_of QU7.out
 go_wp2_with (first|(go_at_call 24;(with_reducible refine (M1.out _ (Below.refl _ _)).mono ?_);rintro _ o1 ⟨rfl,hbo1⟩;have hko1:Below V6.heap.size V6 o1:=hbo1;obtain ⟨xo10,xo11,xo12,xo1l⟩:=c3_of (keepq hko1 F0.out))|(go_at_call 20;refine (awake4_c _).mono ?_;rintro _ wz ⟨rfl,hbz⟩)|fail)
 refine bodyPost_ret (v := .bool true) ?_ rfl ⟨rfl,keep_trans HB8.out (keep_trans hko1 hbz)⟩
 simp[results,Tryz.f14,go_sem]
theorem lcounts_B (r C:Int) (a:Option Addr) (n c:Nat) (r2 C2:Int) (a2:Option Addr) (n2 c2:Nat) (m:Int) (w:World) (h0:¬100<n) (h1:¬100<n2) (R1:Int) (k1:Nat) (X1:List Int) (er1:Int) (kv:Int) (k5:Nat) (lA:List ByteArray) (o er4:Int) (NN k6:Nat) (css:List (List Int)) (hk6:k6≤100000) (hc4:(o≠0∧er4=o)∨(o=0∧5<m∧er4=20)∨(o=0∧¬5<m∧er4=0)) (hz4:er4≠0→k6=0∧css=[]) (eb:Int) (heb:eb≠0) (hm1:madeB R1 R1 X1 er1 0 0 [] eb=true)
 (H1:cH1 w #[.agg #[.int .i64 r,.int .i64 C,.slice a n c],.agg #[.int .i64 r2,.int .i64 C2,.slice a2 n2 c2]] R1 k1 X1 er1) (H2:cH w 74 #[.agg #[.int .i64 r,.int .i64 C,.slice a n c]] (.tuple #[.int .i64 kv,.int .i64 0])) (H3:cH3 w #[.agg #[.int .i64 r,.int .i64 C,.slice a n c]] k5 lA 0) (H4:cH4 w m er4 NN k6 css) (H8:er4=0→cH8 w m NN k6 css) (H5:∀W,Calls Tryz.prog 59 #[.int .i64 m] W fun e w'=>e = .returned (.int .i64 o)∧Below W.heap.size W w') (HA:cH w 22 #[.agg #[.int .i64 r,.int .i64 C,.slice a n c]] (.int .i64 0)) (HB:cH w 22 #[.agg #[.int .i64 r2,.int .i64 C2,.slice a2 n2 c2]] (.int .i64 eb)) (HN:cHN w #[.agg #[.int .i64 r,.int .i64 C,.slice a n c]] k5 lA) (HI:cH w 79 #[.agg #[.int .i64 r,.int .i64 C,.slice a n c]] (.int .i64 kv)):Calls Tryz.prog 14 #[.agg #[.int .i64 r,.int .i64 C,.slice a n c],.agg #[.int .i64 r2,.int .i64 C2,.slice a2 n2 c2],.int .i64 m] w fun e w'=>e = .returned (.bool true)∧Below w.heap.size w w':=by
 have hg0:decide ((100:Int)<(n:Int))=false:=decide_eq_false (by omega)
 have hg1:decide ((100:Int)<(n2:Int))=false:=decide_eq_false (by omega)
 have e2:(er4 != er4)=false:=by simp
 have e3:(eb==0)=false:=by simpa using heb
 clear heb
 have e6:(kv != kv)=false:=by simp
 have e7:((k5:Int) != (k5:Int))=false:=by simp
 have H1:=Lib.hid H1
 have H2:=Lib.hid H2
 have H3:=Lib.hid H3
 have H4:=Lib.hid H4
 have H5:=Lib.hid H5
 have HA:=Lib.hid HA
 have hm1:=Lib.hid hm1
 have H8:=Lib.hid H8
 have hk6:=Lib.hid hk6
 have hc4:=Lib.hid hc4
 have hz4:=Lib.hid hz4
 have HB:=Lib.hid HB
 have HN:=Lib.hid HN
 have HI:=Lib.hid HI
 go_enter Tryz.func14,Tryz.ntmps14
 go_upto_region 1 with fail
 have fsz:((w.alloc (.cells #[.int .i64 r,.int .i64 C,.slice a n c] 24)).alloc (.cells #[.int .i64 r2,.int .i64 C2,.slice a2 n2 c2] 24)).heap.size=w.heap.size+2:=by simp only[World.size_alloc] <;> omega
 have fB:Below w.heap.size w ((w.alloc (.cells #[.int .i64 r,.int .i64 C,.slice a n c] 24)).alloc (.cells #[.int .i64 r2,.int .i64 C2,.slice a2 n2 c2] 24)):=((Below.refl _ _).alloc (Nat.le_refl _) _).alloc (by simp only[World.size_alloc];omega) _
 have fq0:((w.alloc (.cells #[.int .i64 r,.int .i64 C,.slice a n c] 24)).alloc (.cells #[.int .i64 r2,.int .i64 C2,.slice a2 n2 c2] 24)).heap[w.heap.size]?=some (.cells #[.int .i64 r,.int .i64 C,.slice a n c] 24 (0,0)):=by have h:=World.alloc_heap_new w (.cells #[.int .i64 r,.int .i64 C,.slice a n c] 24);exact (Below.heap_alloc _ _ _ (by simp only[World.size_alloc];omega)).trans (h)
 have fq1:((w.alloc (.cells #[.int .i64 r,.int .i64 C,.slice a n c] 24)).alloc (.cells #[.int .i64 r2,.int .i64 C2,.slice a2 n2 c2] 24)).heap[w.heap.size+1]?=some (.cells #[.int .i64 r2,.int .i64 C2,.slice a2 n2 c2] 24 (0,0)):=by have h:=World.alloc_heap_new (w.alloc (.cells #[.int .i64 r,.int .i64 C,.slice a n c] 24)) (.cells #[.int .i64 r2,.int .i64 C2,.slice a2 n2 c2] 24);simp only[World.size_alloc] at h;exact h
 generalize ((w.alloc (.cells #[.int .i64 r,.int .i64 C,.slice a n c] 24)).alloc (.cells #[.int .i64 r2,.int .i64 C2,.slice a2 n2 c2] 24))=W0 at fsz fB fq0 fq1 ⊢
 have Q0:=Lib.hid fq0
 have Q1:=Lib.hid fq1
 have FB:=Lib.hid fB
 obtain ⟨x0,x1,x2,xl⟩:=c3_of Q0.out
 obtain ⟨y0,y1,y2,yl⟩:=c3_of Q1.out
 clear fq0 fq1 fsz fB
 go_upto_region 4 with (first|(go_at_call 19;(with_reducible refine (lgreat_c r C a n c 100 _).mono ?_);rintro _ g1 ⟨rfl,hbg1⟩;have hkg1:Below W0.heap.size W0 g1:=hbg1;obtain ⟨xg10,xg11,xg12,xg1l⟩:=c3_of (keepq hkg1 Q0.out);obtain ⟨yg10,yg11,yg12,yg1l⟩:=c3_of (keepq hkg1 Q1.out))|(go_at_call 19;(with_reducible refine (lgreat_c r2 C2 a2 n2 c2 100 _).mono ?_);rintro _ g2 ⟨rfl,hbg2⟩;have hkg2:Below W0.heap.size W0 g2:=keep_trans hkg1 hbg2;obtain ⟨xg20,xg21,xg22,xg2l⟩:=c3_of (keepq hkg2 Q0.out);obtain ⟨yg20,yg21,yg22,yg2l⟩:=c3_of (keepq hkg2 Q1.out))|(go_at_call 71;(with_reducible refine (H1.out _ (keep_trans FB.out hkg2)).mono ?_);rintro _ u0 ⟨a4,c4,rfl,hi4,hbu0⟩;have hku0:Below W0.heap.size W0 u0:=keep_trans hkg2 hbu0)|fail)
 have gsz:(u0.alloc (.cells #[.int .i64 R1,.int .i64 R1,.slice a4 k1 c4] 24)).heap.size=u0.heap.size+1:=by simp only[World.size_alloc]
 have gB:Below u0.heap.size u0 (u0.alloc (.cells #[.int .i64 R1,.int .i64 R1,.slice a4 k1 c4] 24)):=(Below.refl _ _).alloc (Nat.le_refl _) _
 have gq0:(u0.alloc (.cells #[.int .i64 R1,.int .i64 R1,.slice a4 k1 c4] 24)).heap[u0.heap.size]?=some (.cells #[.int .i64 R1,.int .i64 R1,.slice a4 k1 c4] 24 (0,0)):=by have h:=World.alloc_heap_new u0 (.cells #[.int .i64 R1,.int .i64 R1,.slice a4 k1 c4] 24);exact h
 generalize (u0.alloc (.cells #[.int .i64 R1,.int .i64 R1,.slice a4 k1 c4] 24))=V1 at gsz gB gq0 ⊢
 have hkk:=keep_trans hku0 gB
 have N0:=Lib.hid (keepq hkk Q0.out)
 have N1:=Lib.hid (keepq hkk Q1.out)
 have HB1:=Lib.hid (keep_trans FB.out hkk)
 have N7:=Lib.hid gq0
 have I4:=Lib.hid (hi4.mono gB)
 clear gsz gq0 gB hkk hbu0 hku0 hi4 x0 x1 x2 xl y0 y1 y2 yl hbg1 hkg1 xg10 xg11 xg12 xg1l yg10 yg11 yg12 yg1l hbg2 hkg2 xg20 xg21 xg22 xg2l yg20 yg21 yg22 yg2l Q0 Q1
 obtain ⟨x0,x1,x2,xl⟩:=c3_of N0.out
 obtain ⟨y0,y1,y2,yl⟩:=c3_of N1.out
 go_upto_region 7 with (first|(go_at_call 74;(with_reducible refine (H2.out _ HB1.out).mono ?_);rintro _ t2 ⟨rfl,hbt2⟩;have hkt2:Below V1.heap.size V1 t2:=hbt2;obtain ⟨xt20,xt21,xt22,xt2l⟩:=c3_of (keepq hkt2 N0.out))|(go_at_call 72;(with_reducible refine (H3.out _ (keep_trans HB1.out hkt2)).mono ?_);rintro _ t3 ⟨a5,c5,rfl,sc5,hbt3⟩;have hkt3:Below V1.heap.size V1 t3:=keep_trans hkt2 hbt3;obtain ⟨xt30,xt31,xt32,xt3l⟩:=c3_of (keepq hkt3 N0.out))|(go_at_call 75;(with_reducible refine (H4.out _ (keep_trans HB1.out hkt3)).mono ?_);rintro _ t4 ⟨a6,c6,rfl,gl6,hbt4⟩;have hkt4:Below V1.heap.size V1 t4:=keep_trans hkt3 hbt4;obtain ⟨xt40,xt41,xt42,xt4l⟩:=c3_of (keepq hkt4 N0.out))|fail)
 have S5:=Lib.hid (sc5.mono hbt4)
 have Q0:=Lib.hid (keepq hkt4 N0.out)
 have Q1:=Lib.hid (keepq hkt4 N1.out)
 have Q7:=Lib.hid (keepq hkt4 N7.out)
 have HB2:=Lib.hid (keep_trans HB1.out hkt4)
 have J4:=Lib.hid (I4.out.mono hkt4)
 have G6:=Lib.hid gl6
 clear gl6
 clear sc5 x0 x1 x2 xl y0 y1 y2 yl hbt2 hkt2 xt20 xt21 xt22 xt2l hbt3 hkt3 xt30 xt31 xt32 xt3l hbt4 hkt4 xt40 xt41 xt42 xt4l N0 N1 N7 HB1 I4
 obtain ⟨x0,x1,x2,xl⟩:=c3_of Q0.out
 obtain ⟨y0,y1,y2,yl⟩:=c3_of Q1.out
 go_upto_region 8 with (first|(go_at_call 59;(with_reducible refine (H5.out _).mono ?_);rintro _ s1 ⟨rfl,hbs1⟩;have hks1:Below t4.heap.size t4 s1:=hbs1;obtain ⟨xs10,xs11,xs12,xs1l⟩:=c3_of (keepq hks1 Q0.out);obtain ⟨ys10,ys11,ys12,ys1l⟩:=c3_of (keepq hks1 Q1.out))|fail)
 obtain ⟨bb,hbb⟩:∃bb:Bool,bb=((o==0)&&decide (5<m)):=⟨_,rfl⟩
 have HBB:=Lib.hid hbb
 have HBE:Hid ((bb=true∧er4=20)∨(bb=false∧er4=o)):=by
  rcases hc4.out with ⟨h,e⟩|⟨h,h5,e⟩|⟨h,h5,e⟩
  ·exact .inr ⟨by rw[hbb,show (o==0)=false by simpa using h];rfl,e⟩
  ·exact .inl ⟨by rw[hbb,h,decide_eq_true h5];rfl,e⟩
  ·exact .inr ⟨by rw[hbb,decide_eq_false (show ¬5<m by omega),Bool.and_false],by rw[e,h]⟩
 clear hbb
 go_cut [56] from 49 to 69 (fun s56 wx=>s56 = .bool bb∧wx=s1)
 case first =>
  cases h8:(o==0) with
  | true =>
   have hb9:Hid (bb=decide (5<m)):=by unfold Hid;rw[HBB.out,h8];rfl
   go_wp2_with fail
   go_meet
   case rel=>exact ⟨by rw[hb9.out],rfl⟩
  | false =>
   have hb9:Hid (bb=false):=by unfold Hid;rw[HBB.out,h8];rfl
   go_wp2_with fail
   go_meet
   case rel=>exact ⟨by rw[hb9.out],rfl⟩
 obtain ⟨rfl,hwc⟩:=hcut
 replace hwc:=hwc.symm
 subst hwc
 go_upto_if 56 with (fail)
 go_cut [15] from 49 to 69 (fun s15 wx=>s15 = .int .i64 er4∧wx=s1)
 case first =>
  rcases HBE.out with ⟨h,e⟩|⟨h,e⟩
  ·have E:=Lib.hid e
   subst h
   clear e HBB HBE
   go_wp2_with fail
   go_meet
   case rel=>exact ⟨by rw[E.out],rfl⟩
  ·have E:=Lib.hid e
   subst h
   clear e HBB HBE
   go_wp2_with fail
   go_meet
   case rel=>exact ⟨by rw[E.out],rfl⟩
 obtain ⟨rfl,hwc⟩:=hcut
 replace hwc:=hwc.symm
 subst hwc
 go_upto_if 58 with (fail)
 go_cut [16] from 49 to 69 (fun s16 wx=>∃a7 c7,s16 = .slice a7 k6 c7∧Hid (GL wx a7 k6 NN css)∧Hid (Below t4.heap.size t4 wx))
 case first =>
  by_cases he:er4=0
  ·have H8b:=Lib.hid (H8.out he)
   have e1:(er4==0)=true:=by simpa using he
   clear he
   go_wp2_with (first|(go_at_call 76;(with_reducible refine (H8b.out _ (keep_trans HB2.out hks1)).mono ?_);rintro _ s2 ⟨a7,c7,rfl,gl7,hbs2⟩;have hks2:Below t4.heap.size t4 s2:=keep_trans hks1 hbs2)|fail)
   go_meet
   case rel=>exact ⟨a7,c7,rfl,gl7,hks2⟩
  ·obtain ⟨hk0,hcs⟩:=hz4.out he
   have e1:(er4==0)=false:=by simpa using he
   clear he
   go_wp2_with fail
   go_meet
   case rel=>exact ⟨none,0,by rw[hk0],by rw[hk0,hcs];exact ⟨⟨rfl,by omega⟩,fun k hk=>absurd hk (by omega)⟩,hks1⟩
 obtain ⟨a7,c7,rfl,gl7,hbc⟩:=hcut
 have gl7:=gl7.out
 have hks2:=hbc.out
 clear x0 x1 x2 xl y0 y1 y2 yl hbs1 hks1 xs10 xs11 xs12 xs1l ys10 ys11 ys12 ys1l
 obtain ⟨x0,x1,x2,xl⟩:=c3_of (keepq hks2 Q0.out)
 obtain ⟨y0,y1,y2,yl⟩:=c3_of (keepq hks2 Q1.out)
 go_upto_region 15 with (first|(go_at_call 29;(with_reducible refine (lgrids_t a6 k6 c6 NN css a7 c7 _ (G6.out.below hks2) gl7 hk6.out).mono ?_);rintro _ s3 ⟨rfl,hbs3⟩;have hks3:Below t4.heap.size t4 s3:=keep_trans hks2 hbs3;obtain ⟨xs30,xs31,xs32,xs3l⟩:=c3_of (keepq hks3 Q0.out);obtain ⟨ys30,ys31,ys32,ys3l⟩:=c3_of (keepq hks3 Q1.out))|fail)
 go_upto_region 22 with (first|(go_at_call 22;(with_reducible refine (HA.out _ (keep_trans HB2.out hks3)).mono ?_);rintro _ s4 ⟨rfl,hbs4⟩;have hks4:Below t4.heap.size t4 s4:=keep_trans hks3 hbs4;obtain ⟨xs40,xs41,xs42,xs4l⟩:=c3_of (keepq hks4 Q0.out);obtain ⟨ys40,ys41,ys42,ys4l⟩:=c3_of (keepq hks4 Q1.out))|(go_at_call 22;(with_reducible refine (HB.out _ (keep_trans HB2.out hks4)).mono ?_);rintro _ s5 ⟨rfl,hbs5⟩;have hks5:Below t4.heap.size t4 s5:=keep_trans hks4 hbs5;obtain ⟨xs50,xs51,xs52,xs5l⟩:=c3_of (keepq hks5 Q0.out);obtain ⟨ys50,ys51,ys52,ys5l⟩:=c3_of (keepq hks5 Q1.out))|fail)
 have fsz:(s5.alloc (.cells #[.int .i64 0,.int .i64 0,.slice none 0 0] 24)).heap.size=s5.heap.size+1:=by simp only[World.size_alloc]
 have fB:Below s5.heap.size s5 (s5.alloc (.cells #[.int .i64 0,.int .i64 0,.slice none 0 0] 24)):=(Below.refl _ _).alloc (Nat.le_refl _) _
 have fq0:(s5.alloc (.cells #[.int .i64 0,.int .i64 0,.slice none 0 0] 24)).heap[s5.heap.size]?=some (.cells #[.int .i64 0,.int .i64 0,.slice none 0 0] 24 (0,0)):=by have h:=World.alloc_heap_new s5 (.cells #[.int .i64 0,.int .i64 0,.slice none 0 0] 24);exact h
 generalize (s5.alloc (.cells #[.int .i64 0,.int .i64 0,.slice none 0 0] 24))=V6 at fsz fB fq0 ⊢
 have HV6:=Lib.hid (keep_trans hks5 fB)
 have HS6:Hid (t4.heap.size≤s5.heap.size):=hks5.size
 have QU:=Lib.hid fq0
 clear fq0 fsz fB
 go_upto_region 24 with fail
 clear x0 x1 x2 xl y0 y1 y2 yl
 have HV7:=HV6
 have QU7:=QU
 have IU7:Hid (IC V6 none 0 []):=⟨⟨rfl,by omega⟩,fun k hk=>absurd hk (by omega)⟩
 have F0:=Lib.hid (keepq HV7.out Q0.out)
 have F7:=Lib.hid (keepq HV7.out Q7.out)
 have HB8:=Lib.hid (keep_trans HB2.out HV7.out)
 have FI4:=Lib.hid (J4.out.mono HV7.out)
 have S7:=Lib.hid (S5.out.mono HV7.out)
 have M1:=Lib.hid (fun W (hb:Below V6.heap.size V6 W)=>lmade_v R1 R1 a4 k1 c4 X1 er1 0 0 none 0 0 [] eb W true hm1.out (FI4.out.mono hb) (IU7.out.mono hb))
 obtain ⟨x0,x1,x2,xl⟩:=c3_of F0.out
 obtain ⟨y0,y1,y2,yl⟩:=c3_of F7.out
 obtain ⟨z0,z1,z2,zl⟩:=c3_of QU7.out
 go_upto_region 31 with (first|(go_at_call 24;(with_reducible refine (M1.out _ (Below.refl _ _)).mono ?_);rintro _ o1 ⟨rfl,hbo1⟩;have hko1:Below V6.heap.size V6 o1:=hbo1;obtain ⟨xo10,xo11,xo12,xo1l⟩:=c3_of (keepq hko1 F0.out))|(go_at_call 78;(with_reducible refine (HN.out _ (keep_trans HB8.out hko1)).mono ?_);rintro _ o2 ⟨a8,c8,rfl,sc8,hbo2⟩;have hko2:Below V6.heap.size V6 o2:=keep_trans hko1 hbo2;obtain ⟨xo20,xo21,xo22,xo2l⟩:=c3_of (keepq hko2 F0.out))|(go_at_call 79;(with_reducible refine (HI.out _ (keep_trans HB8.out hko2)).mono ?_);rintro _ o3 ⟨rfl,hbo3⟩;have hko3:Below V6.heap.size V6 o3:=keep_trans hko2 hbo3;obtain ⟨xo30,xo31,xo32,xo3l⟩:=c3_of (keepq hko3 F0.out))|fail)
 have T5:=Lib.hid (S7.out.mono hko3)
 have T8:=Lib.hid (sc8.mono hbo3)
 have hk5:k5≤1000:=T5.out.1.2
 have HB9:=Lib.hid (keep_trans HB8.out hko3)
 clear x0 x1 x2 xl y0 y1 y2 yl z0 z1 z2 zl hbo1 hko1 xo10 xo11 xo12 xo1l hbo2 hko2 xo20 xo21 xo22 xo2l hbo3 hko3 xo30 xo31 xo32 xo3l sc8
 go_wp2_with fail
 go_loopw [20,143] (fun _ s143 wr=>∃i:Nat,i≤k5∧s143 = .int .i64 (i:Int)∧Hid (Below o3.heap.size o3 wr)) (fun _ s143 _=>k5 - (intOf s143).toNat)
 case atStart=>exact ⟨0,by omega,rfl,Below.refl _ _⟩
 case round =>
  obtain ⟨i,hi,rfl,hbr⟩:=hrel
  by_cases hlt:i<k5
  ·have hii:(i:Int)<(k5:Int):=by omega
   obtain ⟨b5,off5,rfl,hl5,hc5⟩:=(T5.out.mono hbr.out).2 i hlt
   obtain ⟨b8,off8,rfl,hl8,hc8⟩:=(T8.out.mono hbr.out).2 i hlt
   generalize lA[i]?.getD ⟨#[]⟩=S at hc5 hc8
   have hs:(S.toList != S.toList)=false:=by simp
   go_wp2_with fail
   refine wp_region_S (fun w'=>∃u,w'=over (wr) u) [] [(0,0),(0,1),(0,2),(0,3),(0,4),(0,5),(0,6),(0,7),(0,8)] (by kernel_rfl) (by kernel_rfl) (by exact ⟨_,below_over (by repeat (first|assumption|exact Below.refl _ _|refine keep_drew ?_|refine keep_alloc ?_ _|refine keep_trans ?_ (by assumption)))⟩) ?_
   dsimp only[pickOps,nthOp]
   repeat (first|(refine wpS_skip rfl (fun K hK=>?_);go_big_quiet_op;refine hK _ ?_;clear hK K)|(refine wpS_quiet rfl rfl (fun K hK=>?_);go_big_quiet_op;refine hK _ ?_;clear hK K))
   refine wpS_end ?_
   go_wp2_with fail
   go_roundw
   case rel=>exact ⟨i+1,by omega,by go_num,hbr.out.drew⟩
   case measure=>simp[intOf];omega
  ·have e:i=k5:=by omega
   have hno:¬(i:Int)<(k5:Int):=by omega
   clear e
   go_wp2_with (first|(go_at_call 20;refine (awake4_c _).mono ?_;rintro _ wz ⟨rfl,hbz⟩)|fail)
   refine bodyPost_ret (v := .bool true) ?_ rfl ⟨rfl,keep_trans (keep_trans HB9.out hbr.out) hbz⟩
   simp[results,Tryz.f14,go_sem]
theorem lcounts_L (r C:Int) (a:Option Addr) (n c:Nat) (r2 C2:Int) (a2:Option Addr) (n2 c2:Nat) (m:Int) (w:World) (h0:¬100<n) (h1:¬100<n2) (R1:Int) (k1:Nat) (X1:List Int) (er1:Int) (kv:Int) (k5:Nat) (lA:List ByteArray) (o er4:Int) (NN k6:Nat) (css:List (List Int)) (hk6:k6≤100000) (hc4:(o≠0∧er4=o)∨(o=0∧5<m∧er4=20)∨(o=0∧¬5<m∧er4=0)) (hz4:er4≠0→k6=0∧css=[]) (K:Int) (hK:r*r2=K) (hK16:16<K) (hKb:K≤1000) (hm1:madeB R1 R1 X1 er1 0 0 [] 20=true)
 (H1:cH1 w #[.agg #[.int .i64 r,.int .i64 C,.slice a n c],.agg #[.int .i64 r2,.int .i64 C2,.slice a2 n2 c2]] R1 k1 X1 er1) (H2:cH w 74 #[.agg #[.int .i64 r,.int .i64 C,.slice a n c]] (.tuple #[.int .i64 kv,.int .i64 0])) (H3:cH3 w #[.agg #[.int .i64 r,.int .i64 C,.slice a n c]] k5 lA 0) (H4:cH4 w m er4 NN k6 css) (H8:er4=0→cH8 w m NN k6 css) (H5:∀W,Calls Tryz.prog 59 #[.int .i64 m] W fun e w'=>e = .returned (.int .i64 o)∧Below W.heap.size W w') (HA:cH w 22 #[.agg #[.int .i64 r,.int .i64 C,.slice a n c]] (.int .i64 0)) (HB:cH w 22 #[.agg #[.int .i64 r2,.int .i64 C2,.slice a2 n2 c2]] (.int .i64 0)) (HN:cHN w #[.agg #[.int .i64 r,.int .i64 C,.slice a n c]] k5 lA) (HI:cH w 79 #[.agg #[.int .i64 r,.int .i64 C,.slice a n c]] (.int .i64 kv)):Calls Tryz.prog 14 #[.agg #[.int .i64 r,.int .i64 C,.slice a n c],.agg #[.int .i64 r2,.int .i64 C2,.slice a2 n2 c2],.int .i64 m] w fun e w'=>e = .returned (.bool true)∧Below w.heap.size w w':=by
 have hg0:decide ((100:Int)<(n:Int))=false:=decide_eq_false (by omega)
 have hg1:decide ((100:Int)<(n2:Int))=false:=decide_eq_false (by omega)
 have e2:(er4 != er4)=false:=by simp
 have d6:decide (16<K)=true:=decide_eq_true hK16
 have e6:(kv != kv)=false:=by simp
 have e7:((k5:Int) != (k5:Int))=false:=by simp
 have H1:=Lib.hid H1
 have H2:=Lib.hid H2
 have H3:=Lib.hid H3
 have H4:=Lib.hid H4
 have H5:=Lib.hid H5
 have HA:=Lib.hid HA
 have hm1:=Lib.hid hm1
 have H8:=Lib.hid H8
 have hk6:=Lib.hid hk6
 have hc4:=Lib.hid hc4
 have hz4:=Lib.hid hz4
 have HB:=Lib.hid HB
 have HN:=Lib.hid HN
 have HI:=Lib.hid HI
 go_enter Tryz.func14,Tryz.ntmps14
 go_upto_region 1 with fail
 have fsz:((w.alloc (.cells #[.int .i64 r,.int .i64 C,.slice a n c] 24)).alloc (.cells #[.int .i64 r2,.int .i64 C2,.slice a2 n2 c2] 24)).heap.size=w.heap.size+2:=by simp only[World.size_alloc] <;> omega
 have fB:Below w.heap.size w ((w.alloc (.cells #[.int .i64 r,.int .i64 C,.slice a n c] 24)).alloc (.cells #[.int .i64 r2,.int .i64 C2,.slice a2 n2 c2] 24)):=((Below.refl _ _).alloc (Nat.le_refl _) _).alloc (by simp only[World.size_alloc];omega) _
 have fq0:((w.alloc (.cells #[.int .i64 r,.int .i64 C,.slice a n c] 24)).alloc (.cells #[.int .i64 r2,.int .i64 C2,.slice a2 n2 c2] 24)).heap[w.heap.size]?=some (.cells #[.int .i64 r,.int .i64 C,.slice a n c] 24 (0,0)):=by have h:=World.alloc_heap_new w (.cells #[.int .i64 r,.int .i64 C,.slice a n c] 24);exact (Below.heap_alloc _ _ _ (by simp only[World.size_alloc];omega)).trans (h)
 have fq1:((w.alloc (.cells #[.int .i64 r,.int .i64 C,.slice a n c] 24)).alloc (.cells #[.int .i64 r2,.int .i64 C2,.slice a2 n2 c2] 24)).heap[w.heap.size+1]?=some (.cells #[.int .i64 r2,.int .i64 C2,.slice a2 n2 c2] 24 (0,0)):=by have h:=World.alloc_heap_new (w.alloc (.cells #[.int .i64 r,.int .i64 C,.slice a n c] 24)) (.cells #[.int .i64 r2,.int .i64 C2,.slice a2 n2 c2] 24);simp only[World.size_alloc] at h;exact h
 generalize ((w.alloc (.cells #[.int .i64 r,.int .i64 C,.slice a n c] 24)).alloc (.cells #[.int .i64 r2,.int .i64 C2,.slice a2 n2 c2] 24))=W0 at fsz fB fq0 fq1 ⊢
 have Q0:=Lib.hid fq0
 have Q1:=Lib.hid fq1
 have FB:=Lib.hid fB
 obtain ⟨x0,x1,x2,xl⟩:=c3_of Q0.out
 obtain ⟨y0,y1,y2,yl⟩:=c3_of Q1.out
 clear fq0 fq1 fsz fB
 go_upto_region 4 with (first|(go_at_call 19;(with_reducible refine (lgreat_c r C a n c 100 _).mono ?_);rintro _ g1 ⟨rfl,hbg1⟩;have hkg1:Below W0.heap.size W0 g1:=hbg1;obtain ⟨xg10,xg11,xg12,xg1l⟩:=c3_of (keepq hkg1 Q0.out);obtain ⟨yg10,yg11,yg12,yg1l⟩:=c3_of (keepq hkg1 Q1.out))|(go_at_call 19;(with_reducible refine (lgreat_c r2 C2 a2 n2 c2 100 _).mono ?_);rintro _ g2 ⟨rfl,hbg2⟩;have hkg2:Below W0.heap.size W0 g2:=keep_trans hkg1 hbg2;obtain ⟨xg20,xg21,xg22,xg2l⟩:=c3_of (keepq hkg2 Q0.out);obtain ⟨yg20,yg21,yg22,yg2l⟩:=c3_of (keepq hkg2 Q1.out))|(go_at_call 71;(with_reducible refine (H1.out _ (keep_trans FB.out hkg2)).mono ?_);rintro _ u0 ⟨a4,c4,rfl,hi4,hbu0⟩;have hku0:Below W0.heap.size W0 u0:=keep_trans hkg2 hbu0)|fail)
 have gsz:(u0.alloc (.cells #[.int .i64 R1,.int .i64 R1,.slice a4 k1 c4] 24)).heap.size=u0.heap.size+1:=by simp only[World.size_alloc]
 have gB:Below u0.heap.size u0 (u0.alloc (.cells #[.int .i64 R1,.int .i64 R1,.slice a4 k1 c4] 24)):=(Below.refl _ _).alloc (Nat.le_refl _) _
 have gq0:(u0.alloc (.cells #[.int .i64 R1,.int .i64 R1,.slice a4 k1 c4] 24)).heap[u0.heap.size]?=some (.cells #[.int .i64 R1,.int .i64 R1,.slice a4 k1 c4] 24 (0,0)):=by have h:=World.alloc_heap_new u0 (.cells #[.int .i64 R1,.int .i64 R1,.slice a4 k1 c4] 24);exact h
 generalize (u0.alloc (.cells #[.int .i64 R1,.int .i64 R1,.slice a4 k1 c4] 24))=V1 at gsz gB gq0 ⊢
 have hkk:=keep_trans hku0 gB
 have N0:=Lib.hid (keepq hkk Q0.out)
 have N1:=Lib.hid (keepq hkk Q1.out)
 have HB1:=Lib.hid (keep_trans FB.out hkk)
 have N7:=Lib.hid gq0
 have I4:=Lib.hid (hi4.mono gB)
 clear gsz gq0 gB hkk hbu0 hku0 hi4 x0 x1 x2 xl y0 y1 y2 yl hbg1 hkg1 xg10 xg11 xg12 xg1l yg10 yg11 yg12 yg1l hbg2 hkg2 xg20 xg21 xg22 xg2l yg20 yg21 yg22 yg2l Q0 Q1
 obtain ⟨x0,x1,x2,xl⟩:=c3_of N0.out
 obtain ⟨y0,y1,y2,yl⟩:=c3_of N1.out
 go_upto_region 7 with (first|(go_at_call 74;(with_reducible refine (H2.out _ HB1.out).mono ?_);rintro _ t2 ⟨rfl,hbt2⟩;have hkt2:Below V1.heap.size V1 t2:=hbt2;obtain ⟨xt20,xt21,xt22,xt2l⟩:=c3_of (keepq hkt2 N0.out))|(go_at_call 72;(with_reducible refine (H3.out _ (keep_trans HB1.out hkt2)).mono ?_);rintro _ t3 ⟨a5,c5,rfl,sc5,hbt3⟩;have hkt3:Below V1.heap.size V1 t3:=keep_trans hkt2 hbt3;obtain ⟨xt30,xt31,xt32,xt3l⟩:=c3_of (keepq hkt3 N0.out))|(go_at_call 75;(with_reducible refine (H4.out _ (keep_trans HB1.out hkt3)).mono ?_);rintro _ t4 ⟨a6,c6,rfl,gl6,hbt4⟩;have hkt4:Below V1.heap.size V1 t4:=keep_trans hkt3 hbt4;obtain ⟨xt40,xt41,xt42,xt4l⟩:=c3_of (keepq hkt4 N0.out))|fail)
 have S5:=Lib.hid (sc5.mono hbt4)
 have Q0:=Lib.hid (keepq hkt4 N0.out)
 have Q1:=Lib.hid (keepq hkt4 N1.out)
 have Q7:=Lib.hid (keepq hkt4 N7.out)
 have HB2:=Lib.hid (keep_trans HB1.out hkt4)
 have J4:=Lib.hid (I4.out.mono hkt4)
 have G6:=Lib.hid gl6
 clear gl6
 clear sc5 x0 x1 x2 xl y0 y1 y2 yl hbt2 hkt2 xt20 xt21 xt22 xt2l hbt3 hkt3 xt30 xt31 xt32 xt3l hbt4 hkt4 xt40 xt41 xt42 xt4l N0 N1 N7 HB1 I4
 obtain ⟨x0,x1,x2,xl⟩:=c3_of Q0.out
 obtain ⟨y0,y1,y2,yl⟩:=c3_of Q1.out
 go_upto_region 8 with (first|(go_at_call 59;(with_reducible refine (H5.out _).mono ?_);rintro _ s1 ⟨rfl,hbs1⟩;have hks1:Below t4.heap.size t4 s1:=hbs1;obtain ⟨xs10,xs11,xs12,xs1l⟩:=c3_of (keepq hks1 Q0.out);obtain ⟨ys10,ys11,ys12,ys1l⟩:=c3_of (keepq hks1 Q1.out))|fail)
 obtain ⟨bb,hbb⟩:∃bb:Bool,bb=((o==0)&&decide (5<m)):=⟨_,rfl⟩
 have HBB:=Lib.hid hbb
 have HBE:Hid ((bb=true∧er4=20)∨(bb=false∧er4=o)):=by
  rcases hc4.out with ⟨h,e⟩|⟨h,h5,e⟩|⟨h,h5,e⟩
  ·exact .inr ⟨by rw[hbb,show (o==0)=false by simpa using h];rfl,e⟩
  ·exact .inl ⟨by rw[hbb,h,decide_eq_true h5];rfl,e⟩
  ·exact .inr ⟨by rw[hbb,decide_eq_false (show ¬5<m by omega),Bool.and_false],by rw[e,h]⟩
 clear hbb
 go_cut [56] from 49 to 69 (fun s56 wx=>s56 = .bool bb∧wx=s1)
 case first =>
  cases h8:(o==0) with
  | true =>
   have hb9:Hid (bb=decide (5<m)):=by unfold Hid;rw[HBB.out,h8];rfl
   go_wp2_with fail
   go_meet
   case rel=>exact ⟨by rw[hb9.out],rfl⟩
  | false =>
   have hb9:Hid (bb=false):=by unfold Hid;rw[HBB.out,h8];rfl
   go_wp2_with fail
   go_meet
   case rel=>exact ⟨by rw[hb9.out],rfl⟩
 obtain ⟨rfl,hwc⟩:=hcut
 replace hwc:=hwc.symm
 subst hwc
 go_upto_if 56 with (fail)
 go_cut [15] from 49 to 69 (fun s15 wx=>s15 = .int .i64 er4∧wx=s1)
 case first =>
  rcases HBE.out with ⟨h,e⟩|⟨h,e⟩
  ·have E:=Lib.hid e
   subst h
   clear e HBB HBE
   go_wp2_with fail
   go_meet
   case rel=>exact ⟨by rw[E.out],rfl⟩
  ·have E:=Lib.hid e
   subst h
   clear e HBB HBE
   go_wp2_with fail
   go_meet
   case rel=>exact ⟨by rw[E.out],rfl⟩
 obtain ⟨rfl,hwc⟩:=hcut
 replace hwc:=hwc.symm
 subst hwc
 go_upto_if 58 with (fail)
 go_cut [16] from 49 to 69 (fun s16 wx=>∃a7 c7,s16 = .slice a7 k6 c7∧Hid (GL wx a7 k6 NN css)∧Hid (Below t4.heap.size t4 wx))
 case first =>
  by_cases he:er4=0
  ·have H8b:=Lib.hid (H8.out he)
   have e1:(er4==0)=true:=by simpa using he
   clear he
   go_wp2_with (first|(go_at_call 76;(with_reducible refine (H8b.out _ (keep_trans HB2.out hks1)).mono ?_);rintro _ s2 ⟨a7,c7,rfl,gl7,hbs2⟩;have hks2:Below t4.heap.size t4 s2:=keep_trans hks1 hbs2)|fail)
   go_meet
   case rel=>exact ⟨a7,c7,rfl,gl7,hks2⟩
  ·obtain ⟨hk0,hcs⟩:=hz4.out he
   have e1:(er4==0)=false:=by simpa using he
   clear he
   go_wp2_with fail
   go_meet
   case rel=>exact ⟨none,0,by rw[hk0],by rw[hk0,hcs];exact ⟨⟨rfl,by omega⟩,fun k hk=>absurd hk (by omega)⟩,hks1⟩
 obtain ⟨a7,c7,rfl,gl7,hbc⟩:=hcut
 have gl7:=gl7.out
 have hks2:=hbc.out
 clear x0 x1 x2 xl y0 y1 y2 yl hbs1 hks1 xs10 xs11 xs12 xs1l ys10 ys11 ys12 ys1l
 obtain ⟨x0,x1,x2,xl⟩:=c3_of (keepq hks2 Q0.out)
 obtain ⟨y0,y1,y2,yl⟩:=c3_of (keepq hks2 Q1.out)
 go_upto_region 15 with (first|(go_at_call 29;(with_reducible refine (lgrids_t a6 k6 c6 NN css a7 c7 _ (G6.out.below hks2) gl7 hk6.out).mono ?_);rintro _ s3 ⟨rfl,hbs3⟩;have hks3:Below t4.heap.size t4 s3:=keep_trans hks2 hbs3;obtain ⟨xs30,xs31,xs32,xs3l⟩:=c3_of (keepq hks3 Q0.out);obtain ⟨ys30,ys31,ys32,ys3l⟩:=c3_of (keepq hks3 Q1.out))|fail)
 go_upto_region 19 with (first|(go_at_call 22;(with_reducible refine (HA.out _ (keep_trans HB2.out hks3)).mono ?_);rintro _ s4 ⟨rfl,hbs4⟩;have hks4:Below t4.heap.size t4 s4:=keep_trans hks3 hbs4;obtain ⟨xs40,xs41,xs42,xs4l⟩:=c3_of (keepq hks4 Q0.out);obtain ⟨ys40,ys41,ys42,ys4l⟩:=c3_of (keepq hks4 Q1.out))|(go_at_call 22;(with_reducible refine (HB.out _ (keep_trans HB2.out hks4)).mono ?_);rintro _ s5 ⟨rfl,hbs5⟩;have hks5:Below t4.heap.size t4 s5:=keep_trans hks4 hbs5;obtain ⟨xs50,xs51,xs52,xs5l⟩:=c3_of (keepq hks5 Q0.out);obtain ⟨ys50,ys51,ys52,ys5l⟩:=c3_of (keepq hks5 Q1.out))|fail)
 go_upto_region 22 with fail
 have fsz:(s5.alloc (.cells #[.int .i64 0,.int .i64 0,.slice none 0 0] 24)).heap.size=s5.heap.size+1:=by simp only[World.size_alloc]
 have fB:Below s5.heap.size s5 (s5.alloc (.cells #[.int .i64 0,.int .i64 0,.slice none 0 0] 24)):=(Below.refl _ _).alloc (Nat.le_refl _) _
 have fq0:(s5.alloc (.cells #[.int .i64 0,.int .i64 0,.slice none 0 0] 24)).heap[s5.heap.size]?=some (.cells #[.int .i64 0,.int .i64 0,.slice none 0 0] 24 (0,0)):=by have h:=World.alloc_heap_new s5 (.cells #[.int .i64 0,.int .i64 0,.slice none 0 0] 24);exact h
 generalize (s5.alloc (.cells #[.int .i64 0,.int .i64 0,.slice none 0 0] 24))=V6 at fsz fB fq0 ⊢
 have HV6:=Lib.hid (keep_trans hks5 fB)
 have HS6:Hid (t4.heap.size≤s5.heap.size):=hks5.size
 have QU:=Lib.hid fq0
 clear fq0 fsz fB
 go_upto_region 24 with fail
 clear x0 x1 x2 xl y0 y1 y2 yl
 have HV7:=HV6
 have QU7:=QU
 have IU7:Hid (IC V6 none 0 []):=⟨⟨rfl,by omega⟩,fun k hk=>absurd hk (by omega)⟩
 have F0:=Lib.hid (keepq HV7.out Q0.out)
 have F7:=Lib.hid (keepq HV7.out Q7.out)
 have HB8:=Lib.hid (keep_trans HB2.out HV7.out)
 have FI4:=Lib.hid (J4.out.mono HV7.out)
 have S7:=Lib.hid (S5.out.mono HV7.out)
 have M1:=Lib.hid (fun W (hb:Below V6.heap.size V6 W)=>lmade_v R1 R1 a4 k1 c4 X1 er1 0 0 none 0 0 [] 20 W true hm1.out (FI4.out.mono hb) (IU7.out.mono hb))
 obtain ⟨x0,x1,x2,xl⟩:=c3_of F0.out
 obtain ⟨y0,y1,y2,yl⟩:=c3_of F7.out
 obtain ⟨z0,z1,z2,zl⟩:=c3_of QU7.out
 go_upto_region 31 with (first|(go_at_call 24;(with_reducible refine (M1.out _ (Below.refl _ _)).mono ?_);rintro _ o1 ⟨rfl,hbo1⟩;have hko1:Below V6.heap.size V6 o1:=hbo1;obtain ⟨xo10,xo11,xo12,xo1l⟩:=c3_of (keepq hko1 F0.out))|(go_at_call 78;(with_reducible refine (HN.out _ (keep_trans HB8.out hko1)).mono ?_);rintro _ o2 ⟨a8,c8,rfl,sc8,hbo2⟩;have hko2:Below V6.heap.size V6 o2:=keep_trans hko1 hbo2;obtain ⟨xo20,xo21,xo22,xo2l⟩:=c3_of (keepq hko2 F0.out))|(go_at_call 79;(with_reducible refine (HI.out _ (keep_trans HB8.out hko2)).mono ?_);rintro _ o3 ⟨rfl,hbo3⟩;have hko3:Below V6.heap.size V6 o3:=keep_trans hko2 hbo3;obtain ⟨xo30,xo31,xo32,xo3l⟩:=c3_of (keepq hko3 F0.out))|fail)
 have T5:=Lib.hid (S7.out.mono hko3)
 have T8:=Lib.hid (sc8.mono hbo3)
 have hk5:k5≤1000:=T5.out.1.2
 have HB9:=Lib.hid (keep_trans HB8.out hko3)
 clear x0 x1 x2 xl y0 y1 y2 yl z0 z1 z2 zl hbo1 hko1 xo10 xo11 xo12 xo1l hbo2 hko2 xo20 xo21 xo22 xo2l hbo3 hko3 xo30 xo31 xo32 xo3l sc8
 go_wp2_with fail
 go_loopw [20,143] (fun _ s143 wr=>∃i:Nat,i≤k5∧s143 = .int .i64 (i:Int)∧Hid (Below o3.heap.size o3 wr)) (fun _ s143 _=>k5 - (intOf s143).toNat)
 case atStart=>exact ⟨0,by omega,rfl,Below.refl _ _⟩
 case round =>
  obtain ⟨i,hi,rfl,hbr⟩:=hrel
  by_cases hlt:i<k5
  ·have hii:(i:Int)<(k5:Int):=by omega
   obtain ⟨b5,off5,rfl,hl5,hc5⟩:=(T5.out.mono hbr.out).2 i hlt
   obtain ⟨b8,off8,rfl,hl8,hc8⟩:=(T8.out.mono hbr.out).2 i hlt
   generalize lA[i]?.getD ⟨#[]⟩=S at hc5 hc8
   have hs:(S.toList != S.toList)=false:=by simp
   go_wp2_with fail
   refine wp_region_S (fun w'=>∃u,w'=over (wr) u) [] [(0,0),(0,1),(0,2),(0,3),(0,4),(0,5),(0,6),(0,7),(0,8)] (by kernel_rfl) (by kernel_rfl) (by exact ⟨_,below_over (by repeat (first|assumption|exact Below.refl _ _|refine keep_drew ?_|refine keep_alloc ?_ _|refine keep_trans ?_ (by assumption)))⟩) ?_
   dsimp only[pickOps,nthOp]
   repeat (first|(refine wpS_skip rfl (fun K hK=>?_);go_big_quiet_op;refine hK _ ?_;clear hK K)|(refine wpS_quiet rfl rfl (fun K hK=>?_);go_big_quiet_op;refine hK _ ?_;clear hK K))
   refine wpS_end ?_
   go_wp2_with fail
   go_roundw
   case rel=>exact ⟨i+1,by omega,by go_num,hbr.out.drew⟩
   case measure=>simp[intOf];omega
  ·have e:i=k5:=by omega
   have hno:¬(i:Int)<(k5:Int):=by omega
   clear e
   go_wp2_with (first|(go_at_call 20;refine (awake4_c _).mono ?_;rintro _ wz ⟨rfl,hbz⟩)|fail)
   refine bodyPost_ret (v := .bool true) ?_ rfl ⟨rfl,keep_trans (keep_trans HB9.out hbr.out) hbz⟩
   simp[results,Tryz.f14,go_sem]
theorem lcounts_P (r C:Int) (a:Option Addr) (n c:Nat) (r2 C2:Int) (a2:Option Addr) (n2 c2:Nat) (m:Int) (w:World) (h0:¬100<n) (h1:¬100<n2) (R1:Int) (k1:Nat) (X1:List Int) (er1:Int) (kv:Int) (k5:Nat) (lA:List ByteArray) (o er4:Int) (NN k6:Nat) (css:List (List Int)) (hk6:k6≤100000) (hc4:(o≠0∧er4=o)∨(o=0∧5<m∧er4=20)∨(o=0∧¬5<m∧er4=0)) (hz4:er4≠0→k6=0∧css=[]) (K:Int) (hK:r*r2=K) (hK16:¬16<K) (hKb:0≤K) (z2:Nat) (Y2:List Int) (hm1:madeB R1 R1 X1 er1 K K Y2 0=true)
 (H1:cH1 w #[.agg #[.int .i64 r,.int .i64 C,.slice a n c],.agg #[.int .i64 r2,.int .i64 C2,.slice a2 n2 c2]] R1 k1 X1 er1) (H2:cH w 74 #[.agg #[.int .i64 r,.int .i64 C,.slice a n c]] (.tuple #[.int .i64 kv,.int .i64 0])) (H3:cH3 w #[.agg #[.int .i64 r,.int .i64 C,.slice a n c]] k5 lA 0) (H4:cH4 w m er4 NN k6 css) (H8:er4=0→cH8 w m NN k6 css) (H5:∀W,Calls Tryz.prog 59 #[.int .i64 m] W fun e w'=>e = .returned (.int .i64 o)∧Below W.heap.size W w') (HA:cH w 22 #[.agg #[.int .i64 r,.int .i64 C,.slice a n c]] (.int .i64 0)) (HB:cH w 22 #[.agg #[.int .i64 r2,.int .i64 C2,.slice a2 n2 c2]] (.int .i64 0)) (HR:cHR w #[.agg #[.int .i64 r,.int .i64 C,.slice a n c],.agg #[.int .i64 r2,.int .i64 C2,.slice a2 n2 c2]] K z2 Y2) (HN:cHN w #[.agg #[.int .i64 r,.int .i64 C,.slice a n c]] k5 lA) (HI:cH w 79 #[.agg #[.int .i64 r,.int .i64 C,.slice a n c]] (.int .i64 kv)):Calls Tryz.prog 14 #[.agg #[.int .i64 r,.int .i64 C,.slice a n c],.agg #[.int .i64 r2,.int .i64 C2,.slice a2 n2 c2],.int .i64 m] w fun e w'=>e = .returned (.bool true)∧Below w.heap.size w w':=by
 have hg0:decide ((100:Int)<(n:Int))=false:=decide_eq_false (by omega)
 have hg1:decide ((100:Int)<(n2:Int))=false:=decide_eq_false (by omega)
 have e2:(er4 != er4)=false:=by simp
 have d6:decide (16<K)=false:=decide_eq_false hK16
 have e6:(kv != kv)=false:=by simp
 have e7:((k5:Int) != (k5:Int))=false:=by simp
 have H1:=Lib.hid H1
 have H2:=Lib.hid H2
 have H3:=Lib.hid H3
 have H4:=Lib.hid H4
 have H5:=Lib.hid H5
 have HA:=Lib.hid HA
 have hm1:=Lib.hid hm1
 have H8:=Lib.hid H8
 have hk6:=Lib.hid hk6
 have hc4:=Lib.hid hc4
 have hz4:=Lib.hid hz4
 have HB:=Lib.hid HB
 have HR:=Lib.hid HR
 have HN:=Lib.hid HN
 have HI:=Lib.hid HI
 go_enter Tryz.func14,Tryz.ntmps14
 go_upto_region 1 with fail
 have fsz:((w.alloc (.cells #[.int .i64 r,.int .i64 C,.slice a n c] 24)).alloc (.cells #[.int .i64 r2,.int .i64 C2,.slice a2 n2 c2] 24)).heap.size=w.heap.size+2:=by simp only[World.size_alloc] <;> omega
 have fB:Below w.heap.size w ((w.alloc (.cells #[.int .i64 r,.int .i64 C,.slice a n c] 24)).alloc (.cells #[.int .i64 r2,.int .i64 C2,.slice a2 n2 c2] 24)):=((Below.refl _ _).alloc (Nat.le_refl _) _).alloc (by simp only[World.size_alloc];omega) _
 have fq0:((w.alloc (.cells #[.int .i64 r,.int .i64 C,.slice a n c] 24)).alloc (.cells #[.int .i64 r2,.int .i64 C2,.slice a2 n2 c2] 24)).heap[w.heap.size]?=some (.cells #[.int .i64 r,.int .i64 C,.slice a n c] 24 (0,0)):=by have h:=World.alloc_heap_new w (.cells #[.int .i64 r,.int .i64 C,.slice a n c] 24);exact (Below.heap_alloc _ _ _ (by simp only[World.size_alloc];omega)).trans (h)
 have fq1:((w.alloc (.cells #[.int .i64 r,.int .i64 C,.slice a n c] 24)).alloc (.cells #[.int .i64 r2,.int .i64 C2,.slice a2 n2 c2] 24)).heap[w.heap.size+1]?=some (.cells #[.int .i64 r2,.int .i64 C2,.slice a2 n2 c2] 24 (0,0)):=by have h:=World.alloc_heap_new (w.alloc (.cells #[.int .i64 r,.int .i64 C,.slice a n c] 24)) (.cells #[.int .i64 r2,.int .i64 C2,.slice a2 n2 c2] 24);simp only[World.size_alloc] at h;exact h
 generalize ((w.alloc (.cells #[.int .i64 r,.int .i64 C,.slice a n c] 24)).alloc (.cells #[.int .i64 r2,.int .i64 C2,.slice a2 n2 c2] 24))=W0 at fsz fB fq0 fq1 ⊢
 have Q0:=Lib.hid fq0
 have Q1:=Lib.hid fq1
 have FB:=Lib.hid fB
 obtain ⟨x0,x1,x2,xl⟩:=c3_of Q0.out
 obtain ⟨y0,y1,y2,yl⟩:=c3_of Q1.out
 clear fq0 fq1 fsz fB
 go_upto_region 4 with (first|(go_at_call 19;(with_reducible refine (lgreat_c r C a n c 100 _).mono ?_);rintro _ g1 ⟨rfl,hbg1⟩;have hkg1:Below W0.heap.size W0 g1:=hbg1;obtain ⟨xg10,xg11,xg12,xg1l⟩:=c3_of (keepq hkg1 Q0.out);obtain ⟨yg10,yg11,yg12,yg1l⟩:=c3_of (keepq hkg1 Q1.out))|(go_at_call 19;(with_reducible refine (lgreat_c r2 C2 a2 n2 c2 100 _).mono ?_);rintro _ g2 ⟨rfl,hbg2⟩;have hkg2:Below W0.heap.size W0 g2:=keep_trans hkg1 hbg2;obtain ⟨xg20,xg21,xg22,xg2l⟩:=c3_of (keepq hkg2 Q0.out);obtain ⟨yg20,yg21,yg22,yg2l⟩:=c3_of (keepq hkg2 Q1.out))|(go_at_call 71;(with_reducible refine (H1.out _ (keep_trans FB.out hkg2)).mono ?_);rintro _ u0 ⟨a4,c4,rfl,hi4,hbu0⟩;have hku0:Below W0.heap.size W0 u0:=keep_trans hkg2 hbu0)|fail)
 have gsz:(u0.alloc (.cells #[.int .i64 R1,.int .i64 R1,.slice a4 k1 c4] 24)).heap.size=u0.heap.size+1:=by simp only[World.size_alloc]
 have gB:Below u0.heap.size u0 (u0.alloc (.cells #[.int .i64 R1,.int .i64 R1,.slice a4 k1 c4] 24)):=(Below.refl _ _).alloc (Nat.le_refl _) _
 have gq0:(u0.alloc (.cells #[.int .i64 R1,.int .i64 R1,.slice a4 k1 c4] 24)).heap[u0.heap.size]?=some (.cells #[.int .i64 R1,.int .i64 R1,.slice a4 k1 c4] 24 (0,0)):=by have h:=World.alloc_heap_new u0 (.cells #[.int .i64 R1,.int .i64 R1,.slice a4 k1 c4] 24);exact h
 generalize (u0.alloc (.cells #[.int .i64 R1,.int .i64 R1,.slice a4 k1 c4] 24))=V1 at gsz gB gq0 ⊢
 have hkk:=keep_trans hku0 gB
 have N0:=Lib.hid (keepq hkk Q0.out)
 have N1:=Lib.hid (keepq hkk Q1.out)
 have HB1:=Lib.hid (keep_trans FB.out hkk)
 have N7:=Lib.hid gq0
 have I4:=Lib.hid (hi4.mono gB)
 clear gsz gq0 gB hkk hbu0 hku0 hi4 x0 x1 x2 xl y0 y1 y2 yl hbg1 hkg1 xg10 xg11 xg12 xg1l yg10 yg11 yg12 yg1l hbg2 hkg2 xg20 xg21 xg22 xg2l yg20 yg21 yg22 yg2l Q0 Q1
 obtain ⟨x0,x1,x2,xl⟩:=c3_of N0.out
 obtain ⟨y0,y1,y2,yl⟩:=c3_of N1.out
 go_upto_region 7 with (first|(go_at_call 74;(with_reducible refine (H2.out _ HB1.out).mono ?_);rintro _ t2 ⟨rfl,hbt2⟩;have hkt2:Below V1.heap.size V1 t2:=hbt2;obtain ⟨xt20,xt21,xt22,xt2l⟩:=c3_of (keepq hkt2 N0.out))|(go_at_call 72;(with_reducible refine (H3.out _ (keep_trans HB1.out hkt2)).mono ?_);rintro _ t3 ⟨a5,c5,rfl,sc5,hbt3⟩;have hkt3:Below V1.heap.size V1 t3:=keep_trans hkt2 hbt3;obtain ⟨xt30,xt31,xt32,xt3l⟩:=c3_of (keepq hkt3 N0.out))|(go_at_call 75;(with_reducible refine (H4.out _ (keep_trans HB1.out hkt3)).mono ?_);rintro _ t4 ⟨a6,c6,rfl,gl6,hbt4⟩;have hkt4:Below V1.heap.size V1 t4:=keep_trans hkt3 hbt4;obtain ⟨xt40,xt41,xt42,xt4l⟩:=c3_of (keepq hkt4 N0.out))|fail)
 have S5:=Lib.hid (sc5.mono hbt4)
 have Q0:=Lib.hid (keepq hkt4 N0.out)
 have Q1:=Lib.hid (keepq hkt4 N1.out)
 have Q7:=Lib.hid (keepq hkt4 N7.out)
 have HB2:=Lib.hid (keep_trans HB1.out hkt4)
 have J4:=Lib.hid (I4.out.mono hkt4)
 have G6:=Lib.hid gl6
 clear gl6
 clear sc5 x0 x1 x2 xl y0 y1 y2 yl hbt2 hkt2 xt20 xt21 xt22 xt2l hbt3 hkt3 xt30 xt31 xt32 xt3l hbt4 hkt4 xt40 xt41 xt42 xt4l N0 N1 N7 HB1 I4
 obtain ⟨x0,x1,x2,xl⟩:=c3_of Q0.out
 obtain ⟨y0,y1,y2,yl⟩:=c3_of Q1.out
 go_upto_region 8 with (first|(go_at_call 59;(with_reducible refine (H5.out _).mono ?_);rintro _ s1 ⟨rfl,hbs1⟩;have hks1:Below t4.heap.size t4 s1:=hbs1;obtain ⟨xs10,xs11,xs12,xs1l⟩:=c3_of (keepq hks1 Q0.out);obtain ⟨ys10,ys11,ys12,ys1l⟩:=c3_of (keepq hks1 Q1.out))|fail)
 obtain ⟨bb,hbb⟩:∃bb:Bool,bb=((o==0)&&decide (5<m)):=⟨_,rfl⟩
 have HBB:=Lib.hid hbb
 have HBE:Hid ((bb=true∧er4=20)∨(bb=false∧er4=o)):=by
  rcases hc4.out with ⟨h,e⟩|⟨h,h5,e⟩|⟨h,h5,e⟩
  ·exact .inr ⟨by rw[hbb,show (o==0)=false by simpa using h];rfl,e⟩
  ·exact .inl ⟨by rw[hbb,h,decide_eq_true h5];rfl,e⟩
  ·exact .inr ⟨by rw[hbb,decide_eq_false (show ¬5<m by omega),Bool.and_false],by rw[e,h]⟩
 clear hbb
 go_cut [56] from 49 to 69 (fun s56 wx=>s56 = .bool bb∧wx=s1)
 case first =>
  cases h8:(o==0) with
  | true =>
   have hb9:Hid (bb=decide (5<m)):=by unfold Hid;rw[HBB.out,h8];rfl
   go_wp2_with fail
   go_meet
   case rel=>exact ⟨by rw[hb9.out],rfl⟩
  | false =>
   have hb9:Hid (bb=false):=by unfold Hid;rw[HBB.out,h8];rfl
   go_wp2_with fail
   go_meet
   case rel=>exact ⟨by rw[hb9.out],rfl⟩
 obtain ⟨rfl,hwc⟩:=hcut
 replace hwc:=hwc.symm
 subst hwc
 go_upto_if 56 with (fail)
 go_cut [15] from 49 to 69 (fun s15 wx=>s15 = .int .i64 er4∧wx=s1)
 case first =>
  rcases HBE.out with ⟨h,e⟩|⟨h,e⟩
  ·have E:=Lib.hid e
   subst h
   clear e HBB HBE
   go_wp2_with fail
   go_meet
   case rel=>exact ⟨by rw[E.out],rfl⟩
  ·have E:=Lib.hid e
   subst h
   clear e HBB HBE
   go_wp2_with fail
   go_meet
   case rel=>exact ⟨by rw[E.out],rfl⟩
 obtain ⟨rfl,hwc⟩:=hcut
 replace hwc:=hwc.symm
 subst hwc
 go_upto_if 58 with (fail)
 go_cut [16] from 49 to 69 (fun s16 wx=>∃a7 c7,s16 = .slice a7 k6 c7∧Hid (GL wx a7 k6 NN css)∧Hid (Below t4.heap.size t4 wx))
 case first =>
  by_cases he:er4=0
  ·have H8b:=Lib.hid (H8.out he)
   have e1:(er4==0)=true:=by simpa using he
   clear he
   go_wp2_with (first|(go_at_call 76;(with_reducible refine (H8b.out _ (keep_trans HB2.out hks1)).mono ?_);rintro _ s2 ⟨a7,c7,rfl,gl7,hbs2⟩;have hks2:Below t4.heap.size t4 s2:=keep_trans hks1 hbs2)|fail)
   go_meet
   case rel=>exact ⟨a7,c7,rfl,gl7,hks2⟩
  ·obtain ⟨hk0,hcs⟩:=hz4.out he
   have e1:(er4==0)=false:=by simpa using he
   clear he
   go_wp2_with fail
   go_meet
   case rel=>exact ⟨none,0,by rw[hk0],by rw[hk0,hcs];exact ⟨⟨rfl,by omega⟩,fun k hk=>absurd hk (by omega)⟩,hks1⟩
 obtain ⟨a7,c7,rfl,gl7,hbc⟩:=hcut
 have gl7:=gl7.out
 have hks2:=hbc.out
 clear x0 x1 x2 xl y0 y1 y2 yl hbs1 hks1 xs10 xs11 xs12 xs1l ys10 ys11 ys12 ys1l
 obtain ⟨x0,x1,x2,xl⟩:=c3_of (keepq hks2 Q0.out)
 obtain ⟨y0,y1,y2,yl⟩:=c3_of (keepq hks2 Q1.out)
 go_upto_region 15 with (first|(go_at_call 29;(with_reducible refine (lgrids_t a6 k6 c6 NN css a7 c7 _ (G6.out.below hks2) gl7 hk6.out).mono ?_);rintro _ s3 ⟨rfl,hbs3⟩;have hks3:Below t4.heap.size t4 s3:=keep_trans hks2 hbs3;obtain ⟨xs30,xs31,xs32,xs3l⟩:=c3_of (keepq hks3 Q0.out);obtain ⟨ys30,ys31,ys32,ys3l⟩:=c3_of (keepq hks3 Q1.out))|fail)
 go_upto_region 19 with (first|(go_at_call 22;(with_reducible refine (HA.out _ (keep_trans HB2.out hks3)).mono ?_);rintro _ s4 ⟨rfl,hbs4⟩;have hks4:Below t4.heap.size t4 s4:=keep_trans hks3 hbs4;obtain ⟨xs40,xs41,xs42,xs4l⟩:=c3_of (keepq hks4 Q0.out);obtain ⟨ys40,ys41,ys42,ys4l⟩:=c3_of (keepq hks4 Q1.out))|(go_at_call 22;(with_reducible refine (HB.out _ (keep_trans HB2.out hks4)).mono ?_);rintro _ s5 ⟨rfl,hbs5⟩;have hks5:Below t4.heap.size t4 s5:=keep_trans hks4 hbs5;obtain ⟨xs50,xs51,xs52,xs5l⟩:=c3_of (keepq hks5 Q0.out);obtain ⟨ys50,ys51,ys52,ys5l⟩:=c3_of (keepq hks5 Q1.out))|fail)
 go_upto_region 22 with fail
 have fsz:(s5.alloc (.cells #[.int .i64 0,.int .i64 0,.slice none 0 0] 24)).heap.size=s5.heap.size+1:=by simp only[World.size_alloc]
 have fB:Below s5.heap.size s5 (s5.alloc (.cells #[.int .i64 0,.int .i64 0,.slice none 0 0] 24)):=(Below.refl _ _).alloc (Nat.le_refl _) _
 have fq0:(s5.alloc (.cells #[.int .i64 0,.int .i64 0,.slice none 0 0] 24)).heap[s5.heap.size]?=some (.cells #[.int .i64 0,.int .i64 0,.slice none 0 0] 24 (0,0)):=by have h:=World.alloc_heap_new s5 (.cells #[.int .i64 0,.int .i64 0,.slice none 0 0] 24);exact h
 generalize (s5.alloc (.cells #[.int .i64 0,.int .i64 0,.slice none 0 0] 24))=V6 at fsz fB fq0 ⊢
 have HV6:=Lib.hid (keep_trans hks5 fB)
 have HS6:Hid (t4.heap.size≤s5.heap.size):=hks5.size
 have QU:=Lib.hid fq0
 clear fq0 fsz fB
 clear x0 x1 x2 xl y0 y1 y2 yl
 obtain ⟨x0,x1,x2,xl⟩:=c3_of (keepq HV6.out Q0.out)
 obtain ⟨y0,y1,y2,yl⟩:=c3_of (keepq HV6.out Q1.out)
 obtain ⟨l0,l1,l2,ll⟩:=c3_of QU.out
 have hul:=q_lt QU.out
 go_upto_region 24 with (first|(go_at_call 77;refine (HR.out _ (keep_trans HB2.out HV6.out)).mono ?_;rintro _ w7 ⟨a7,c7,rfl,hf7,hi7,hbw7⟩;obtain ⟨l70,l71,l72,l7l⟩:=c3_of (keepq hbw7 QU.out);obtain ⟨lf0,lf1,lf2⟩:=f3_of (keepq hbw7 QU.out))|fail)
 have g3:=st3_q (x0 := .int .i64 K) (x1 := .int .i64 K) (x2 := .slice a7 z2 c7) (keepq hbw7 QU.out)
 have hb3:=st3_below (x0 := .int .i64 K) (x1 := .int .i64 K) (x2 := .slice a7 z2 c7) (b:=s5.heap.size) (keep_trans HV6.out hbw7) HS6.out
 have i7:=hi7.st3 (x0 := .int .i64 K) (x1 := .int .i64 K) (x2 := .slice a7 z2 c7) (b:=s5.heap.size) (fun b o e=>by have:=hf7 b o e;omega)
 generalize (((w7.setCell ⟨s5.heap.size,0,none⟩ (.int .i64 K)).setCell ⟨s5.heap.size,1,none⟩ (.int .i64 K)).setCell ⟨s5.heap.size,2,none⟩ (.slice a7 z2 c7))=V7 at i7 g3 hb3 ⊢
 have HV7:=Lib.hid hb3
 have QU7:=Lib.hid g3
 have IU7:=Lib.hid i7
 clear x0 x1 x2 xl y0 y1 y2 yl l0 l1 l2 ll l70 l71 l72 l7l lf0 lf1 lf2 g3 hb3 i7 hf7 hi7 hbw7
 have F0:=Lib.hid (keepq HV7.out Q0.out)
 have F7:=Lib.hid (keepq HV7.out Q7.out)
 have HB8:=Lib.hid (keep_trans HB2.out HV7.out)
 have FI4:=Lib.hid (J4.out.mono HV7.out)
 have S7:=Lib.hid (S5.out.mono HV7.out)
 have M1:=Lib.hid (fun W (hb:Below V7.heap.size V7 W)=>lmade_v R1 R1 a4 k1 c4 X1 er1 K K a7 z2 c7 Y2 0 W true hm1.out (FI4.out.mono hb) (IU7.out.mono hb))
 obtain ⟨x0,x1,x2,xl⟩:=c3_of F0.out
 obtain ⟨y0,y1,y2,yl⟩:=c3_of F7.out
 obtain ⟨z0,z1,z2,zl⟩:=c3_of QU7.out
 go_upto_region 31 with (first|(go_at_call 24;(with_reducible refine (M1.out _ (Below.refl _ _)).mono ?_);rintro _ o1 ⟨rfl,hbo1⟩;have hko1:Below V7.heap.size V7 o1:=hbo1;obtain ⟨xo10,xo11,xo12,xo1l⟩:=c3_of (keepq hko1 F0.out))|(go_at_call 78;(with_reducible refine (HN.out _ (keep_trans HB8.out hko1)).mono ?_);rintro _ o2 ⟨a8,c8,rfl,sc8,hbo2⟩;have hko2:Below V7.heap.size V7 o2:=keep_trans hko1 hbo2;obtain ⟨xo20,xo21,xo22,xo2l⟩:=c3_of (keepq hko2 F0.out))|(go_at_call 79;(with_reducible refine (HI.out _ (keep_trans HB8.out hko2)).mono ?_);rintro _ o3 ⟨rfl,hbo3⟩;have hko3:Below V7.heap.size V7 o3:=keep_trans hko2 hbo3;obtain ⟨xo30,xo31,xo32,xo3l⟩:=c3_of (keepq hko3 F0.out))|fail)
 have T5:=Lib.hid (S7.out.mono hko3)
 have T8:=Lib.hid (sc8.mono hbo3)
 have hk5:k5≤1000:=T5.out.1.2
 have HB9:=Lib.hid (keep_trans HB8.out hko3)
 clear x0 x1 x2 xl y0 y1 y2 yl z0 z1 z2 zl hbo1 hko1 xo10 xo11 xo12 xo1l hbo2 hko2 xo20 xo21 xo22 xo2l hbo3 hko3 xo30 xo31 xo32 xo3l sc8
 go_wp2_with fail
 go_loopw [20,143] (fun _ s143 wr=>∃i:Nat,i≤k5∧s143 = .int .i64 (i:Int)∧Hid (Below o3.heap.size o3 wr)) (fun _ s143 _=>k5 - (intOf s143).toNat)
 case atStart=>exact ⟨0,by omega,rfl,Below.refl _ _⟩
 case round =>
  obtain ⟨i,hi,rfl,hbr⟩:=hrel
  by_cases hlt:i<k5
  ·have hii:(i:Int)<(k5:Int):=by omega
   obtain ⟨b5,off5,rfl,hl5,hc5⟩:=(T5.out.mono hbr.out).2 i hlt
   obtain ⟨b8,off8,rfl,hl8,hc8⟩:=(T8.out.mono hbr.out).2 i hlt
   generalize lA[i]?.getD ⟨#[]⟩=S at hc5 hc8
   have hs:(S.toList != S.toList)=false:=by simp
   go_wp2_with fail
   refine wp_region_S (fun w'=>∃u,w'=over (wr) u) [] [(0,0),(0,1),(0,2),(0,3),(0,4),(0,5),(0,6),(0,7),(0,8)] (by kernel_rfl) (by kernel_rfl) (by exact ⟨_,below_over (by repeat (first|assumption|exact Below.refl _ _|refine keep_drew ?_|refine keep_alloc ?_ _|refine keep_trans ?_ (by assumption)))⟩) ?_
   dsimp only[pickOps,nthOp]
   repeat (first|(refine wpS_skip rfl (fun K hK=>?_);go_big_quiet_op;refine hK _ ?_;clear hK K)|(refine wpS_quiet rfl rfl (fun K hK=>?_);go_big_quiet_op;refine hK _ ?_;clear hK K))
   refine wpS_end ?_
   go_wp2_with fail
   go_roundw
   case rel=>exact ⟨i+1,by omega,by go_num,hbr.out.drew⟩
   case measure=>simp[intOf];omega
  ·have e:i=k5:=by omega
   have hno:¬(i:Int)<(k5:Int):=by omega
   clear e
   go_wp2_with (first|(go_at_call 20;refine (awake4_c _).mono ?_;rintro _ wz ⟨rfl,hbz⟩)|fail)
   refine bodyPost_ret (v := .bool true) ?_ rfl ⟨rfl,keep_trans (keep_trans HB9.out hbr.out) hbz⟩
   simp[results,Tryz.f14,go_sem]
end
end Go.Proofs.YtmfpdakaeagdpaaGreat
