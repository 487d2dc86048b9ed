/- Texts J146 to J146 of this proof, in one file. -/
import Derived.Test.YtmfpdakaeagdpaaGreatW01
import Derived.Test.YtmfpdakaeagdpaaGreatW02
import Derived.Test.YtmfpdakaeagdpaaGreatW03
import Derived.Test.YtmfpdakaeagdpaaGreatW04
import Derived.Test.YtmfpdakaeagdpaaGreatW05
import Derived.Test.YtmfpdakaeagdpaaGreatW06
import Derived.Test.YtmfpdakaeagdpaaGreatW07
import Derived.Test.YtmfpdakaeagdpaaGreatW08
import Derived.Test.YtmfpdakaeagdpaaGreatW09
import Derived.Test.YtmfpdakaeagdpaaGreatW10
import Derived.Test.YtmfpdakaeagdpaaGreatW11
import Derived.Test.YtmfpdakaeagdpaaGreatW12
import Derived.Test.YtmfpdakaeagdpaaGreatW13
import Derived.Test.YtmfpdakaeagdpaaGreatW14
import Derived.Test.YtmfpdakaeagdpaaGreatW15
import Derived.Test.YtmfpdakaeagdpaaGreatW16
import Derived.Test.YtmfpdakaeagdpaaGreatW17
import Derived.Test.YtmfpdakaeagdpaaGreatW18
import Derived.Test.YtmfpdakaeagdpaaGreatW19
import Derived.Test.YtmfpdakaeagdpaaGreatW20
import Derived.Test.YtmfpdakaeagdpaaGreatW21
import Derived.Test.YtmfpdakaeagdpaaGreatW22
import Derived.Test.YtmfpdakaeagdpaaGreatW23
import Derived.Test.YtmfpdakaeagdpaaGreatW24
import Derived.Test.YtmfpdakaeagdpaaGreatW25
import Derived.Test.YtmfpdakaeagdpaaGreatW26
import Derived.Test.YtmfpdakaeagdpaaGreatW27
import Derived.Test.YtmfpdakaeagdpaaGreatX28n01
import Derived.Test.YtmfpdakaeagdpaaGreatX28n02
import Derived.Test.YtmfpdakaeagdpaaGreatX28n03
import Derived.Test.YtmfpdakaeagdpaaGreatX28n04
import Derived.Below
import Derived.BigFrame
import Derived.BigQuiet
import Derived.Deep.CutBlock
import Derived.Deep.CutRange
import Derived.Deep.LoopGhost
import Derived.Deep.Quiet
import Derived.Deep.RegionHeld3
import Derived.DeepKeys4
import Derived.KernelRfl
import Derived.Laws.BitsAllLaws
import Derived.Laws.EntriesVeiled
import Derived.Lib.AppendZeros
import Derived.Lib.Hide
import Derived.Lib.SlKeysI
import Derived.Lib.SliceRun
import Derived.LoopIn
import Derived.LoopNIn
import Derived.Maps.AppendAt
import Derived.Maps.OwnIn
import Derived.Maps.OwnSet
import Derived.OneCell
import Derived.OrdersHeld
import Derived.OrdersIn
import Derived.OwnWalkIn
import Derived.RangeFuncBound
import Derived.RangeFuncBox
import Derived.RangeFuncCalls
import Derived.RangeFuncLeaves
import Derived.RangeFuncNested
import Derived.RangeFuncWrites
import Derived.Shelf.Abstract
import Derived.Shelf.SortM.Plain
import Derived.Still
import Derived.TacticsIn
import Derived.TacticsInMore
import Derived.Test.YtmfpdakaeagdpaaGreatProg
import Derived.WalkKit
import Derived.WalkLawsBesides
import Derived.WalkSpells
import Derived.WideKeyPair
namespace Go.Proofs.YtmfpdakaeagdpaaGreat
set_option maxRecDepth 100000
set_option maxHeartbeats 16000000
section
open Go Go.RowKit
attribute [local go_sem] over_cell
attribute [local go_sem] Oper.semAt_some
theorem c6_of {w:World} {b:Nat} {v0 v1 v2 v3 v4 v5:Value} {T:TypeId} (h:w.heap[b]?=some (.cells #[v0,v1,v2,v3,v4,v5] T (0,0))):w.cell? ⟨b,0,none⟩=some v0∧w.cell? ⟨b,1,none⟩=some v1∧w.cell? ⟨b,2,none⟩=some v2∧w.cell? ⟨b,3,none⟩=some v3∧w.cell? ⟨b,4,none⟩=some v4∧w.cell? ⟨b,5,none⟩=some v5∧b<w.heap.size:=⟨q_cell h 0,q_cell h 1,q_cell h 2,q_cell h 3,q_cell h 4,q_cell h 5,q_lt h⟩
theorem ic_box6 {w:World} {b:Nat} {v0 v1 v2:Value} {x y z:Int} {T:TypeId} (h:w.heap[b]?=some (.cells #[v0,v1,v2,.int .i64 x,.int .i64 y,.int .i64 z] T (0,0))):IC w (some ⟨b,3,none⟩) 3 [x,y,z] :=
 ⟨⟨rfl,by omega⟩,fun k hk=>⟨b,3,rfl,q_lt h,by
  match k,hk with
  | 0,_=>exact q_cell h 3
  | 1,_=>exact q_cell h 4
  | 2,_=>exact q_cell h 5⟩⟩
theorem lforms_g0 (r C:Int) (a:Option Addr) (n c:Nat) (aR:Option Addr) (nR cR:Nat) (aK:Option Addr) (nK cK:Nat) (aM:Option Addr) (nM cM:Nat) (p0 p1 p2:Int) (w:World) (h0:300<n):Calls Tryz.prog 17 #[.agg #[.int .i64 r,.int .i64 C,.slice a n c],.agg #[.slice aR nR cR,.slice aK nK cK,.slice aM nM cM,.int .i64 p0,.int .i64 p1,.int .i64 p2]] w fun e w'=>e = .returned (.bool true)∧Below w.heap.size w w':=by
 have hg0:decide ((300:Int)<(n:Int))=true:=decide_eq_true (by omega)
 go_enter Tryz.func17,Tryz.ntmps17
 go_upto_region 1 with fail
 have fsz:((w.alloc (.cells #[.int .i64 r,.int .i64 C,.slice a n c] 24)).alloc (.cells #[.slice aR nR cR,.slice aK nK cK,.slice aM nM cM,.int .i64 p0,.int .i64 p1,.int .i64 p2] 98)).heap.size=w.heap.size+2:=by simp only[World.size_alloc] <;> omega
 have fB:Below w.heap.size w ((w.alloc (.cells #[.int .i64 r,.int .i64 C,.slice a n c] 24)).alloc (.cells #[.slice aR nR cR,.slice aK nK cK,.slice aM nM cM,.int .i64 p0,.int .i64 p1,.int .i64 p2] 98)):=((Below.refl _ _).alloc (Nat.le_refl _) _).alloc (by simp only[World.size_alloc];omega) _
 have fq0:((w.alloc (.cells #[.int .i64 r,.int .i64 C,.slice a n c] 24)).alloc (.cells #[.slice aR nR cR,.slice aK nK cK,.slice aM nM cM,.int .i64 p0,.int .i64 p1,.int .i64 p2] 98)).heap[w.heap.size]?=some (.cells #[.int .i64 r,.int .i64 C,.slice a n c] 24 (0,0)):=by have h:=World.alloc_heap_new w (.cells #[.int .i64 r,.int .i64 C,.slice a n c] 24);exact (Below.heap_alloc _ _ _ (by simp only[World.size_alloc];omega)).trans (h)
 have fq1:((w.alloc (.cells #[.int .i64 r,.int .i64 C,.slice a n c] 24)).alloc (.cells #[.slice aR nR cR,.slice aK nK cK,.slice aM nM cM,.int .i64 p0,.int .i64 p1,.int .i64 p2] 98)).heap[w.heap.size+1]?=some (.cells #[.slice aR nR cR,.slice aK nK cK,.slice aM nM cM,.int .i64 p0,.int .i64 p1,.int .i64 p2] 98 (0,0)):=by have h:=World.alloc_heap_new (w.alloc (.cells #[.int .i64 r,.int .i64 C,.slice a n c] 24)) (.cells #[.slice aR nR cR,.slice aK nK cK,.slice aM nM cM,.int .i64 p0,.int .i64 p1,.int .i64 p2] 98);simp only[World.size_alloc] at h;exact h
 generalize ((w.alloc (.cells #[.int .i64 r,.int .i64 C,.slice a n c] 24)).alloc (.cells #[.slice aR nR cR,.slice aK nK cK,.slice aM nM cM,.int .i64 p0,.int .i64 p1,.int .i64 p2] 98))=W0 at fsz fB fq0 fq1 ⊢
 have Q0:=Lib.hid fq0
 have Q1:=Lib.hid fq1
 have FB:=Lib.hid fB
 obtain ⟨x0,x1,x2,xl⟩:=c3_of fq0
 obtain ⟨y0,y1,y2,y3,y4,y5,yl⟩:=c6_of fq1
 clear fq0 fq1 fsz fB
 go_wp2_with (first|(go_at_call 19;(with_reducible refine (lgreat_c r C a n c 300 _).mono ?_);rintro _ w1 ⟨rfl,hbw1⟩;have hkw1:Below W0.heap.size W0 w1:=(by (repeat (first|assumption|exact Below.refl _ _|refine keep_drew ?_|refine keep_alloc ?_ _|refine keep_trans ?_ (by assumption))));obtain ⟨xw10,xw11,xw12,xw1l⟩:=c3_of (keepq hkw1 Q0.out);obtain ⟨yw10,yw11,yw12,yw13,yw14,yw15,yw1l⟩:=c6_of (keepq hkw1 Q1.out))|(go_at_call 20;refine (awake4_c _).mono ?_;rintro _ wz ⟨rfl,hbz⟩)|fail)
 refine bodyPost_ret (v := .bool true) ?_ rfl ⟨rfl,keep_trans FB.out (show Below W0.heap.size W0 wz by (repeat (first|assumption|exact Below.refl _ _|refine keep_drew ?_|refine keep_alloc ?_ _|refine keep_trans ?_ (by assumption))))⟩
 simp[results,Tryz.f17,go_sem]
theorem lforms_g1 (r C:Int) (a:Option Addr) (n c:Nat) (aR:Option Addr) (nR cR:Nat) (aK:Option Addr) (nK cK:Nat) (aM:Option Addr) (nM cM:Nat) (p0 p1 p2:Int) (w:World) (h0:¬300<n) (h1:40<nR):Calls Tryz.prog 17 #[.agg #[.int .i64 r,.int .i64 C,.slice a n c],.agg #[.slice aR nR cR,.slice aK nK cK,.slice aM nM cM,.int .i64 p0,.int .i64 p1,.int .i64 p2]] w fun e w'=>e = .returned (.bool true)∧Below w.heap.size w w':=by
 have hg0:decide ((300:Int)<(n:Int))=false:=decide_eq_false (by omega)
 have hg1:decide ((40:Int)<(nR:Int))=true:=decide_eq_true (by omega)
 go_enter Tryz.func17,Tryz.ntmps17
 go_upto_region 1 with fail
 have fsz:((w.alloc (.cells #[.int .i64 r,.int .i64 C,.slice a n c] 24)).alloc (.cells #[.slice aR nR cR,.slice aK nK cK,.slice aM nM cM,.int .i64 p0,.int .i64 p1,.int .i64 p2] 98)).heap.size=w.heap.size+2:=by simp only[World.size_alloc] <;> omega
 have fB:Below w.heap.size w ((w.alloc (.cells #[.int .i64 r,.int .i64 C,.slice a n c] 24)).alloc (.cells #[.slice aR nR cR,.slice aK nK cK,.slice aM nM cM,.int .i64 p0,.int .i64 p1,.int .i64 p2] 98)):=((Below.refl _ _).alloc (Nat.le_refl _) _).alloc (by simp only[World.size_alloc];omega) _
 have fq0:((w.alloc (.cells #[.int .i64 r,.int .i64 C,.slice a n c] 24)).alloc (.cells #[.slice aR nR cR,.slice aK nK cK,.slice aM nM cM,.int .i64 p0,.int .i64 p1,.int .i64 p2] 98)).heap[w.heap.size]?=some (.cells #[.int .i64 r,.int .i64 C,.slice a n c] 24 (0,0)):=by have h:=World.alloc_heap_new w (.cells #[.int .i64 r,.int .i64 C,.slice a n c] 24);exact (Below.heap_alloc _ _ _ (by simp only[World.size_alloc];omega)).trans (h)
 have fq1:((w.alloc (.cells #[.int .i64 r,.int .i64 C,.slice a n c] 24)).alloc (.cells #[.slice aR nR cR,.slice aK nK cK,.slice aM nM cM,.int .i64 p0,.int .i64 p1,.int .i64 p2] 98)).heap[w.heap.size+1]?=some (.cells #[.slice aR nR cR,.slice aK nK cK,.slice aM nM cM,.int .i64 p0,.int .i64 p1,.int .i64 p2] 98 (0,0)):=by have h:=World.alloc_heap_new (w.alloc (.cells #[.int .i64 r,.int .i64 C,.slice a n c] 24)) (.cells #[.slice aR nR cR,.slice aK nK cK,.slice aM nM cM,.int .i64 p0,.int .i64 p1,.int .i64 p2] 98);simp only[World.size_alloc] at h;exact h
 generalize ((w.alloc (.cells #[.int .i64 r,.int .i64 C,.slice a n c] 24)).alloc (.cells #[.slice aR nR cR,.slice aK nK cK,.slice aM nM cM,.int .i64 p0,.int .i64 p1,.int .i64 p2] 98))=W0 at fsz fB fq0 fq1 ⊢
 have Q0:=Lib.hid fq0
 have Q1:=Lib.hid fq1
 have FB:=Lib.hid fB
 obtain ⟨x0,x1,x2,xl⟩:=c3_of fq0
 obtain ⟨y0,y1,y2,y3,y4,y5,yl⟩:=c6_of fq1
 clear fq0 fq1 fsz fB
 go_wp2_with (first|(go_at_call 19;(with_reducible refine (lgreat_c r C a n c 300 _).mono ?_);rintro _ w1 ⟨rfl,hbw1⟩;have hkw1:Below W0.heap.size W0 w1:=(by (repeat (first|assumption|exact Below.refl _ _|refine keep_drew ?_|refine keep_alloc ?_ _|refine keep_trans ?_ (by assumption))));obtain ⟨xw10,xw11,xw12,xw1l⟩:=c3_of (keepq hkw1 Q0.out);obtain ⟨yw10,yw11,yw12,yw13,yw14,yw15,yw1l⟩:=c6_of (keepq hkw1 Q1.out))|(go_at_call 20;refine (awake4_c _).mono ?_;rintro _ wz ⟨rfl,hbz⟩)|fail)
 refine bodyPost_ret (v := .bool true) ?_ rfl ⟨rfl,keep_trans FB.out (show Below W0.heap.size W0 wz by (repeat (first|assumption|exact Below.refl _ _|refine keep_drew ?_|refine keep_alloc ?_ _|refine keep_trans ?_ (by assumption))))⟩
 simp[results,Tryz.f17,go_sem]
theorem lforms_g2 (r C:Int) (a:Option Addr) (n c:Nat) (aR:Option Addr) (nR cR:Nat) (aK:Option Addr) (nK cK:Nat) (aM:Option Addr) (nM cM:Nat) (p0 p1 p2:Int) (w:World) (h0:¬300<n) (h1:¬40<nR) (h2:40<nK):Calls Tryz.prog 17 #[.agg #[.int .i64 r,.int .i64 C,.slice a n c],.agg #[.slice aR nR cR,.slice aK nK cK,.slice aM nM cM,.int .i64 p0,.int .i64 p1,.int .i64 p2]] w fun e w'=>e = .returned (.bool true)∧Below w.heap.size w w':=by
 have hg0:decide ((300:Int)<(n:Int))=false:=decide_eq_false (by omega)
 have hg1:decide ((40:Int)<(nR:Int))=false:=decide_eq_false (by omega)
 have hg2:decide ((40:Int)<(nK:Int))=true:=decide_eq_true (by omega)
 go_enter Tryz.func17,Tryz.ntmps17
 go_upto_region 1 with fail
 have fsz:((w.alloc (.cells #[.int .i64 r,.int .i64 C,.slice a n c] 24)).alloc (.cells #[.slice aR nR cR,.slice aK nK cK,.slice aM nM cM,.int .i64 p0,.int .i64 p1,.int .i64 p2] 98)).heap.size=w.heap.size+2:=by simp only[World.size_alloc] <;> omega
 have fB:Below w.heap.size w ((w.alloc (.cells #[.int .i64 r,.int .i64 C,.slice a n c] 24)).alloc (.cells #[.slice aR nR cR,.slice aK nK cK,.slice aM nM cM,.int .i64 p0,.int .i64 p1,.int .i64 p2] 98)):=((Below.refl _ _).alloc (Nat.le_refl _) _).alloc (by simp only[World.size_alloc];omega) _
 have fq0:((w.alloc (.cells #[.int .i64 r,.int .i64 C,.slice a n c] 24)).alloc (.cells #[.slice aR nR cR,.slice aK nK cK,.slice aM nM cM,.int .i64 p0,.int .i64 p1,.int .i64 p2] 98)).heap[w.heap.size]?=some (.cells #[.int .i64 r,.int .i64 C,.slice a n c] 24 (0,0)):=by have h:=World.alloc_heap_new w (.cells #[.int .i64 r,.int .i64 C,.slice a n c] 24);exact (Below.heap_alloc _ _ _ (by simp only[World.size_alloc];omega)).trans (h)
 have fq1:((w.alloc (.cells #[.int .i64 r,.int .i64 C,.slice a n c] 24)).alloc (.cells #[.slice aR nR cR,.slice aK nK cK,.slice aM nM cM,.int .i64 p0,.int .i64 p1,.int .i64 p2] 98)).heap[w.heap.size+1]?=some (.cells #[.slice aR nR cR,.slice aK nK cK,.slice aM nM cM,.int .i64 p0,.int .i64 p1,.int .i64 p2] 98 (0,0)):=by have h:=World.alloc_heap_new (w.alloc (.cells #[.int .i64 r,.int .i64 C,.slice a n c] 24)) (.cells #[.slice aR nR cR,.slice aK nK cK,.slice aM nM cM,.int .i64 p0,.int .i64 p1,.int .i64 p2] 98);simp only[World.size_alloc] at h;exact h
 generalize ((w.alloc (.cells #[.int .i64 r,.int .i64 C,.slice a n c] 24)).alloc (.cells #[.slice aR nR cR,.slice aK nK cK,.slice aM nM cM,.int .i64 p0,.int .i64 p1,.int .i64 p2] 98))=W0 at fsz fB fq0 fq1 ⊢
 have Q0:=Lib.hid fq0
 have Q1:=Lib.hid fq1
 have FB:=Lib.hid fB
 obtain ⟨x0,x1,x2,xl⟩:=c3_of fq0
 obtain ⟨y0,y1,y2,y3,y4,y5,yl⟩:=c6_of fq1
 clear fq0 fq1 fsz fB
 go_wp2_with (first|(go_at_call 19;(with_reducible refine (lgreat_c r C a n c 300 _).mono ?_);rintro _ w1 ⟨rfl,hbw1⟩;have hkw1:Below W0.heap.size W0 w1:=(by (repeat (first|assumption|exact Below.refl _ _|refine keep_drew ?_|refine keep_alloc ?_ _|refine keep_trans ?_ (by assumption))));obtain ⟨xw10,xw11,xw12,xw1l⟩:=c3_of (keepq hkw1 Q0.out);obtain ⟨yw10,yw11,yw12,yw13,yw14,yw15,yw1l⟩:=c6_of (keepq hkw1 Q1.out))|(go_at_call 20;refine (awake4_c _).mono ?_;rintro _ wz ⟨rfl,hbz⟩)|fail)
 refine bodyPost_ret (v := .bool true) ?_ rfl ⟨rfl,keep_trans FB.out (show Below W0.heap.size W0 wz by (repeat (first|assumption|exact Below.refl _ _|refine keep_drew ?_|refine keep_alloc ?_ _|refine keep_trans ?_ (by assumption))))⟩
 simp[results,Tryz.f17,go_sem]
theorem lforms_g3 (r C:Int) (a:Option Addr) (n c:Nat) (aR:Option Addr) (nR cR:Nat) (aK:Option Addr) (nK cK:Nat) (aM:Option Addr) (nM cM:Nat) (p0 p1 p2:Int) (w:World) (h0:¬300<n) (h1:¬40<nR) (h2:¬40<nK) (h3:40<nM):Calls Tryz.prog 17 #[.agg #[.int .i64 r,.int .i64 C,.slice a n c],.agg #[.slice aR nR cR,.slice aK nK cK,.slice aM nM cM,.int .i64 p0,.int .i64 p1,.int .i64 p2]] w fun e w'=>e = .returned (.bool true)∧Below w.heap.size w w':=by
 have hg0:decide ((300:Int)<(n:Int))=false:=decide_eq_false (by omega)
 have hg1:decide ((40:Int)<(nR:Int))=false:=decide_eq_false (by omega)
 have hg2:decide ((40:Int)<(nK:Int))=false:=decide_eq_false (by omega)
 have hg3:decide ((40:Int)<(nM:Int))=true:=decide_eq_true (by omega)
 go_enter Tryz.func17,Tryz.ntmps17
 go_upto_region 1 with fail
 have fsz:((w.alloc (.cells #[.int .i64 r,.int .i64 C,.slice a n c] 24)).alloc (.cells #[.slice aR nR cR,.slice aK nK cK,.slice aM nM cM,.int .i64 p0,.int .i64 p1,.int .i64 p2] 98)).heap.size=w.heap.size+2:=by simp only[World.size_alloc] <;> omega
 have fB:Below w.heap.size w ((w.alloc (.cells #[.int .i64 r,.int .i64 C,.slice a n c] 24)).alloc (.cells #[.slice aR nR cR,.slice aK nK cK,.slice aM nM cM,.int .i64 p0,.int .i64 p1,.int .i64 p2] 98)):=((Below.refl _ _).alloc (Nat.le_refl _) _).alloc (by simp only[World.size_alloc];omega) _
 have fq0:((w.alloc (.cells #[.int .i64 r,.int .i64 C,.slice a n c] 24)).alloc (.cells #[.slice aR nR cR,.slice aK nK cK,.slice aM nM cM,.int .i64 p0,.int .i64 p1,.int .i64 p2] 98)).heap[w.heap.size]?=some (.cells #[.int .i64 r,.int .i64 C,.slice a n c] 24 (0,0)):=by have h:=World.alloc_heap_new w (.cells #[.int .i64 r,.int .i64 C,.slice a n c] 24);exact (Below.heap_alloc _ _ _ (by simp only[World.size_alloc];omega)).trans (h)
 have fq1:((w.alloc (.cells #[.int .i64 r,.int .i64 C,.slice a n c] 24)).alloc (.cells #[.slice aR nR cR,.slice aK nK cK,.slice aM nM cM,.int .i64 p0,.int .i64 p1,.int .i64 p2] 98)).heap[w.heap.size+1]?=some (.cells #[.slice aR nR cR,.slice aK nK cK,.slice aM nM cM,.int .i64 p0,.int .i64 p1,.int .i64 p2] 98 (0,0)):=by have h:=World.alloc_heap_new (w.alloc (.cells #[.int .i64 r,.int .i64 C,.slice a n c] 24)) (.cells #[.slice aR nR cR,.slice aK nK cK,.slice aM nM cM,.int .i64 p0,.int .i64 p1,.int .i64 p2] 98);simp only[World.size_alloc] at h;exact h
 generalize ((w.alloc (.cells #[.int .i64 r,.int .i64 C,.slice a n c] 24)).alloc (.cells #[.slice aR nR cR,.slice aK nK cK,.slice aM nM cM,.int .i64 p0,.int .i64 p1,.int .i64 p2] 98))=W0 at fsz fB fq0 fq1 ⊢
 have Q0:=Lib.hid fq0
 have Q1:=Lib.hid fq1
 have FB:=Lib.hid fB
 obtain ⟨x0,x1,x2,xl⟩:=c3_of fq0
 obtain ⟨y0,y1,y2,y3,y4,y5,yl⟩:=c6_of fq1
 clear fq0 fq1 fsz fB
 go_wp2_with (first|(go_at_call 19;(with_reducible refine (lgreat_c r C a n c 300 _).mono ?_);rintro _ w1 ⟨rfl,hbw1⟩;have hkw1:Below W0.heap.size W0 w1:=(by (repeat (first|assumption|exact Below.refl _ _|refine keep_drew ?_|refine keep_alloc ?_ _|refine keep_trans ?_ (by assumption))));obtain ⟨xw10,xw11,xw12,xw1l⟩:=c3_of (keepq hkw1 Q0.out);obtain ⟨yw10,yw11,yw12,yw13,yw14,yw15,yw1l⟩:=c6_of (keepq hkw1 Q1.out))|(go_at_call 20;refine (awake4_c _).mono ?_;rintro _ wz ⟨rfl,hbz⟩)|fail)
 refine bodyPost_ret (v := .bool true) ?_ rfl ⟨rfl,keep_trans FB.out (show Below W0.heap.size W0 wz by (repeat (first|assumption|exact Below.refl _ _|refine keep_drew ?_|refine keep_alloc ?_ _|refine keep_trans ?_ (by assumption))))⟩
 simp[results,Tryz.f17,go_sem]
theorem lforms_bad (r C:Int) (a:Option Addr) (n c:Nat) (aR:Option Addr) (nR cR:Nat) (aK:Option Addr) (nK cK:Nat) (aM:Option Addr) (nM cM:Nat) (p0 p1 p2:Int) (w:World) (h0:¬300<n) (h1:¬40<nR) (h2:¬40<nK) (h3:¬40<nM) (ea:Int) (hea:ea≠0) (R1 R2 R3:Int) (k1 k2 k3:Nat) (X1 X2 X3:List Int) (er1 er2 er3:Int) (hm1:madeB R1 R1 X1 er1 0 0 [] ea=true) (hm2:madeB R2 R2 X2 er2 0 0 [] ea=true) (hm3:madeB R3 R3 X3 er3 0 0 [] ea=true)
  (HA:∀W,Below w.heap.size w W→Calls Tryz.prog 22 #[.agg #[.int .i64 r,.int .i64 C,.slice a n c]] W fun e w'=>e = .returned (.int .i64 ea)∧Below W.heap.size W w')
  (H1:∀W,Below w.heap.size w W→Calls Tryz.prog 83 #[.agg #[.int .i64 r,.int .i64 C,.slice a n c]] W fun e w'=>∃a2 c2,e = .returned (.tuple #[.agg #[.int .i64 R1,.int .i64 R1,.slice a2 k1 c2],.int .i64 er1])∧IC w' a2 k1 X1∧Below W.heap.size W w')
  (H2:∀W,Below w.heap.size w W→Calls Tryz.prog 84 #[.agg #[.int .i64 r,.int .i64 C,.slice a n c],.slice aR nR cR,.slice aK nK cK,.slice aM nM cM] W fun e w'=>∃a2 c2,e = .returned (.tuple #[.agg #[.int .i64 R2,.int .i64 R2,.slice a2 k2 c2],.int .i64 er2])∧IC w' a2 k2 X2∧Below W.heap.size W w')
  (H3:∀W,Below w.heap.size w W→Calls Tryz.prog 85 #[.agg #[.int .i64 r,.int .i64 C,.slice a n c],.agg #[.int .i64 p0,.int .i64 p1,.int .i64 p2]] W fun e w'=>∃a2 c2,e = .returned (.tuple #[.agg #[.int .i64 R3,.int .i64 R3,.slice a2 k3 c2],.int .i64 er3])∧IC w' a2 k3 X3∧Below W.heap.size W w')
  : Calls Tryz.prog 17 #[.agg #[.int .i64 r,.int .i64 C,.slice a n c],.agg #[.slice aR nR cR,.slice aK nK cK,.slice aM nM cM,.int .i64 p0,.int .i64 p1,.int .i64 p2]] w fun e w'=>e = .returned (.bool true)∧Below w.heap.size w w':=by
 have hg0:decide ((300:Int)<(n:Int))=false:=decide_eq_false (by omega)
 have hg1:decide ((40:Int)<(nR:Int))=false:=decide_eq_false (by omega)
 have hg2:decide ((40:Int)<(nK:Int))=false:=decide_eq_false (by omega)
 have hg3:decide ((40:Int)<(nM:Int))=false:=decide_eq_false (by omega)
 have e1:(ea != 0)=true:=by simpa using hea
 clear hea
 have HA:=Lib.hid HA
 have H1:=Lib.hid H1
 have H2:=Lib.hid H2
 have H3:=Lib.hid H3
 have hm1:=Lib.hid hm1
 have hm2:=Lib.hid hm2
 have hm3:=Lib.hid hm3
 go_enter Tryz.func17,Tryz.ntmps17
 go_upto_region 1 with fail
 have fsz:((w.alloc (.cells #[.int .i64 r,.int .i64 C,.slice a n c] 24)).alloc (.cells #[.slice aR nR cR,.slice aK nK cK,.slice aM nM cM,.int .i64 p0,.int .i64 p1,.int .i64 p2] 98)).heap.size=w.heap.size+2:=by simp only[World.size_alloc] <;> omega
 have fB:Below w.heap.size w ((w.alloc (.cells #[.int .i64 r,.int .i64 C,.slice a n c] 24)).alloc (.cells #[.slice aR nR cR,.slice aK nK cK,.slice aM nM cM,.int .i64 p0,.int .i64 p1,.int .i64 p2] 98)):=((Below.refl _ _).alloc (Nat.le_refl _) _).alloc (by simp only[World.size_alloc];omega) _
 have fq0:((w.alloc (.cells #[.int .i64 r,.int .i64 C,.slice a n c] 24)).alloc (.cells #[.slice aR nR cR,.slice aK nK cK,.slice aM nM cM,.int .i64 p0,.int .i64 p1,.int .i64 p2] 98)).heap[w.heap.size]?=some (.cells #[.int .i64 r,.int .i64 C,.slice a n c] 24 (0,0)):=by have h:=World.alloc_heap_new w (.cells #[.int .i64 r,.int .i64 C,.slice a n c] 24);exact (Below.heap_alloc _ _ _ (by simp only[World.size_alloc];omega)).trans (h)
 have fq1:((w.alloc (.cells #[.int .i64 r,.int .i64 C,.slice a n c] 24)).alloc (.cells #[.slice aR nR cR,.slice aK nK cK,.slice aM nM cM,.int .i64 p0,.int .i64 p1,.int .i64 p2] 98)).heap[w.heap.size+1]?=some (.cells #[.slice aR nR cR,.slice aK nK cK,.slice aM nM cM,.int .i64 p0,.int .i64 p1,.int .i64 p2] 98 (0,0)):=by have h:=World.alloc_heap_new (w.alloc (.cells #[.int .i64 r,.int .i64 C,.slice a n c] 24)) (.cells #[.slice aR nR cR,.slice aK nK cK,.slice aM nM cM,.int .i64 p0,.int .i64 p1,.int .i64 p2] 98);simp only[World.size_alloc] at h;exact h
 generalize ((w.alloc (.cells #[.int .i64 r,.int .i64 C,.slice a n c] 24)).alloc (.cells #[.slice aR nR cR,.slice aK nK cK,.slice aM nM cM,.int .i64 p0,.int .i64 p1,.int .i64 p2] 98))=W0 at fsz fB fq0 fq1 ⊢
 have Q0:=Lib.hid fq0
 have Q1:=Lib.hid fq1
 have FB:=Lib.hid fB
 obtain ⟨x0,x1,x2,xl⟩:=c3_of fq0
 obtain ⟨y0,y1,y2,y3,y4,y5,yl⟩:=c6_of fq1
 clear fq0 fq1 fsz fB
 go_upto_region 4 with (first|(go_at_call 19;(with_reducible refine (lgreat_c r C a n c 300 _).mono ?_);rintro _ w1 ⟨rfl,hbw1⟩;have hkw1:Below W0.heap.size W0 w1:=(by (repeat (first|assumption|exact Below.refl _ _|refine keep_drew ?_|refine keep_alloc ?_ _|refine keep_trans ?_ (by assumption))));obtain ⟨xw10,xw11,xw12,xw1l⟩:=c3_of (keepq hkw1 Q0.out);obtain ⟨yw10,yw11,yw12,yw13,yw14,yw15,yw1l⟩:=c6_of (keepq hkw1 Q1.out))|(go_at_call 83;(with_reducible refine (H1.out _ (keep_trans FB.out (by (repeat (first|assumption|exact Below.refl _ _|refine keep_drew ?_|refine keep_alloc ?_ _|refine keep_trans ?_ (by assumption)))))).mono ?_);rintro _ u0 ⟨b1,d1,rfl,hi0,hbu0⟩;have hku0:Below W0.heap.size W0 u0:=(by (repeat (first|assumption|exact Below.refl _ _|refine keep_drew ?_|refine keep_alloc ?_ _|refine keep_trans ?_ (by assumption)))))|fail)
 have gsz:(u0.alloc (.cells #[.int .i64 R1,.int .i64 R1,.slice b1 k1 d1] 24)).heap.size=u0.heap.size+1:=by simp only[World.size_alloc]
 have gB:Below u0.heap.size u0 (u0.alloc (.cells #[.int .i64 R1,.int .i64 R1,.slice b1 k1 d1] 24)):=(Below.refl _ _).alloc (Nat.le_refl _) _
 have gq0:(u0.alloc (.cells #[.int .i64 R1,.int .i64 R1,.slice b1 k1 d1] 24)).heap[u0.heap.size]?=some (.cells #[.int .i64 R1,.int .i64 R1,.slice b1 k1 d1] 24 (0,0)):=by have h:=World.alloc_heap_new u0 (.cells #[.int .i64 R1,.int .i64 R1,.slice b1 k1 d1] 24);exact h
 generalize (u0.alloc (.cells #[.int .i64 R1,.int .i64 R1,.slice b1 k1 d1] 24))=V1 at gsz gB gq0 ⊢
 have hkk:=keep_trans hku0 gB
 have NQ0:=Lib.hid (keepq hkk Q0.out)
 have NQ1:=Lib.hid (keepq hkk Q1.out)
 have NB:=Lib.hid (keep_trans FB.out hkk)
 have NQ5:=Lib.hid gq0
 have NI1:=Lib.hid (hi0.mono gB)
 clear gsz gq0 gB hkk hku0 hbu0 hi0 x0 x1 x2 xl y0 y1 y2 y3 y4 y5 yl FB Q1 Q0  xw10 xw11 xw12 xw1l yw10 yw11 yw12 yw13 yw14 yw15 yw1l hkw1 hbw1
 have Q0:=NQ0;clear NQ0
 have Q5:=NQ5;clear NQ5
 have Q1:=NQ1;clear NQ1
 have I1:=NI1;clear NI1
 have HB1:=NB;clear NB
 obtain ⟨x0,x1,x2,xl⟩:=c3_of Q0.out
 obtain ⟨e0,e1,e2,el⟩:=c3_of Q5.out
 obtain ⟨y0,y1,y2,y3,y4,y5,yl⟩:=c6_of Q1.out
 go_upto_region 5 with (first|(go_at_call 84;(with_reducible refine (H2.out _ (keep_trans HB1.out (by (repeat (first|assumption|exact Below.refl _ _|refine keep_drew ?_|refine keep_alloc ?_ _|refine keep_trans ?_ (by assumption)))))).mono ?_);rintro _ u1 ⟨b2,d2,rfl,hi1,hbu1⟩;have hku1:Below V1.heap.size V1 u1:=(by (repeat (first|assumption|exact Below.refl _ _|refine keep_drew ?_|refine keep_alloc ?_ _|refine keep_trans ?_ (by assumption)))))|fail)
 have gsz:(u1.alloc (.cells #[.int .i64 R2,.int .i64 R2,.slice b2 k2 d2] 24)).heap.size=u1.heap.size+1:=by simp only[World.size_alloc]
 have gB:Below u1.heap.size u1 (u1.alloc (.cells #[.int .i64 R2,.int .i64 R2,.slice b2 k2 d2] 24)):=(Below.refl _ _).alloc (Nat.le_refl _) _
 have gq0:(u1.alloc (.cells #[.int .i64 R2,.int .i64 R2,.slice b2 k2 d2] 24)).heap[u1.heap.size]?=some (.cells #[.int .i64 R2,.int .i64 R2,.slice b2 k2 d2] 24 (0,0)):=by have h:=World.alloc_heap_new u1 (.cells #[.int .i64 R2,.int .i64 R2,.slice b2 k2 d2] 24);exact h
 generalize (u1.alloc (.cells #[.int .i64 R2,.int .i64 R2,.slice b2 k2 d2] 24))=V2 at gsz gB gq0 ⊢
 have hkk:=keep_trans hku1 gB
 have NQ0:=Lib.hid (keepq hkk Q0.out)
 have NQ5:=Lib.hid (keepq hkk Q5.out)
 have NQ1:=Lib.hid (keepq hkk Q1.out)
 have NB:=Lib.hid (keep_trans HB1.out hkk)
 have NI1:=Lib.hid (I1.out.mono hkk)
 have NQ7:=Lib.hid gq0
 have NI2:=Lib.hid (hi1.mono gB)
 clear gsz gq0 gB hkk hku1 hbu1 hi1 x0 x1 x2 xl e0 e1 e2 el y0 y1 y2 y3 y4 y5 yl HB1 Q1 Q0 Q5 I1
 have Q0:=NQ0;clear NQ0
 have Q5:=NQ5;clear NQ5
 have Q7:=NQ7;clear NQ7
 have Q1:=NQ1;clear NQ1
 have I1:=NI1;clear NI1
 have I2:=NI2;clear NI2
 have HB2:=NB;clear NB
 obtain ⟨x0,x1,x2,xl⟩:=c3_of Q0.out
 obtain ⟨e0,e1,e2,el⟩:=c3_of Q5.out
 obtain ⟨h0,h1,h2,hl⟩:=c3_of Q7.out
 obtain ⟨y0,y1,y2,y3,y4,y5,yl⟩:=c6_of Q1.out
 go_upto_region 6 with (first|(go_at_call 85;(with_reducible refine (H3.out _ (keep_trans HB2.out (by (repeat (first|assumption|exact Below.refl _ _|refine keep_drew ?_|refine keep_alloc ?_ _|refine keep_trans ?_ (by assumption)))))).mono ?_);rintro _ u2 ⟨b3,d3,rfl,hi2,hbu2⟩;have hku2:Below V2.heap.size V2 u2:=(by (repeat (first|assumption|exact Below.refl _ _|refine keep_drew ?_|refine keep_alloc ?_ _|refine keep_trans ?_ (by assumption)))))|fail)
 have gsz:(u2.alloc (.cells #[.int .i64 R3,.int .i64 R3,.slice b3 k3 d3] 24)).heap.size=u2.heap.size+1:=by simp only[World.size_alloc]
 have gB:Below u2.heap.size u2 (u2.alloc (.cells #[.int .i64 R3,.int .i64 R3,.slice b3 k3 d3] 24)):=(Below.refl _ _).alloc (Nat.le_refl _) _
 have gq0:(u2.alloc (.cells #[.int .i64 R3,.int .i64 R3,.slice b3 k3 d3] 24)).heap[u2.heap.size]?=some (.cells #[.int .i64 R3,.int .i64 R3,.slice b3 k3 d3] 24 (0,0)):=by have h:=World.alloc_heap_new u2 (.cells #[.int .i64 R3,.int .i64 R3,.slice b3 k3 d3] 24);exact h
 generalize (u2.alloc (.cells #[.int .i64 R3,.int .i64 R3,.slice b3 k3 d3] 24))=V3 at gsz gB gq0 ⊢
 have hkk:=keep_trans hku2 gB
 have NQ0:=Lib.hid (keepq hkk Q0.out)
 have NQ5:=Lib.hid (keepq hkk Q5.out)
 have NQ7:=Lib.hid (keepq hkk Q7.out)
 have NQ1:=Lib.hid (keepq hkk Q1.out)
 have NB:=Lib.hid (keep_trans HB2.out hkk)
 have NI1:=Lib.hid (I1.out.mono hkk)
 have NI2:=Lib.hid (I2.out.mono hkk)
 have NQ9:=Lib.hid gq0
 have NI3:=Lib.hid (hi2.mono gB)
 clear gsz gq0 gB hkk hku2 hbu2 hi2 x0 x1 x2 xl e0 e1 e2 el h0 h1 h2 hl y0 y1 y2 y3 y4 y5 yl HB2 Q1 Q0 Q5 Q7 I1 I2
 have Q0:=NQ0;clear NQ0
 have Q5:=NQ5;clear NQ5
 have Q7:=NQ7;clear NQ7
 have Q9:=NQ9;clear NQ9
 have Q1:=NQ1;clear NQ1
 have I1:=NI1;clear NI1
 have I2:=NI2;clear NI2
 have I3:=NI3;clear NI3
 have HB3:=NB;clear NB
 obtain ⟨x0,x1,x2,xl⟩:=c3_of Q0.out
 obtain ⟨e0,e1,e2,el⟩:=c3_of Q5.out
 obtain ⟨h0,h1,h2,hl⟩:=c3_of Q7.out
 obtain ⟨j0,j1,j2,jl⟩:=c3_of Q9.out
 obtain ⟨y0,y1,y2,y3,y4,y5,yl⟩:=c6_of Q1.out
 have M1:=Lib.hid (fun W (hb:Below V3.heap.size V3 W)=>lmade_v R1 R1 b1 k1 d1 X1 er1 0 0 none 0 0 [] ea W true hm1.out (I1.out.mono hb) ⟨⟨rfl,by omega⟩,fun k hk=>absurd hk (by omega)⟩)
 have M2:=Lib.hid (fun W (hb:Below V3.heap.size V3 W)=>lmade_v R2 R2 b2 k2 d2 X2 er2 0 0 none 0 0 [] ea W true hm2.out (I2.out.mono hb) ⟨⟨rfl,by omega⟩,fun k hk=>absurd hk (by omega)⟩)
 have M3:=Lib.hid (fun W (hb:Below V3.heap.size V3 W)=>lmade_v R3 R3 b3 k3 d3 X3 er3 0 0 none 0 0 [] ea W true hm3.out (I3.out.mono hb) ⟨⟨rfl,by omega⟩,fun k hk=>absurd hk (by omega)⟩)
 go_upto_region 8 with (first|(go_at_call 22;(with_reducible refine (HA.out _ (keep_trans HB3.out (by (repeat (first|assumption|exact Below.refl _ _|refine keep_drew ?_|refine keep_alloc ?_ _|refine keep_trans ?_ (by assumption)))))).mono ?_);rintro _ v0 ⟨rfl,hbv0⟩;have hkv0:Below V3.heap.size V3 v0:=(by (repeat (first|assumption|exact Below.refl _ _|refine keep_drew ?_|refine keep_alloc ?_ _|refine keep_trans ?_ (by assumption))));obtain ⟨xv00,xv01,xv02,xv0l⟩:=c3_of (keepq hkv0 Q0.out);obtain ⟨ev00,ev01,ev02,ev0l⟩:=c3_of (keepq hkv0 Q5.out);obtain ⟨hv00,hv01,hv02,hv0l⟩:=c3_of (keepq hkv0 Q7.out);obtain ⟨jv00,jv01,jv02,jv0l⟩:=c3_of (keepq hkv0 Q9.out);obtain ⟨yv00,yv01,yv02,yv03,yv04,yv05,yv0l⟩:=c6_of (keepq hkv0 Q1.out))|fail)
 go_wp2_with (first|(go_at_call 24;(with_reducible refine (M1.out _ (by (repeat (first|assumption|exact Below.refl _ _|refine keep_drew ?_|refine keep_alloc ?_ _|refine keep_trans ?_ (by assumption))))).mono ?_);rintro _ v1 ⟨rfl,hbv1⟩;have hkv1:Below V3.heap.size V3 v1:=(by (repeat (first|assumption|exact Below.refl _ _|refine keep_drew ?_|refine keep_alloc ?_ _|refine keep_trans ?_ (by assumption))));obtain ⟨xv10,xv11,xv12,xv1l⟩:=c3_of (keepq hkv1 Q0.out);obtain ⟨ev10,ev11,ev12,ev1l⟩:=c3_of (keepq hkv1 Q5.out);obtain ⟨hv10,hv11,hv12,hv1l⟩:=c3_of (keepq hkv1 Q7.out);obtain ⟨jv10,jv11,jv12,jv1l⟩:=c3_of (keepq hkv1 Q9.out))|(go_at_call 24;(with_reducible refine (M2.out _ (by (repeat (first|assumption|exact Below.refl _ _|refine keep_drew ?_|refine keep_alloc ?_ _|refine keep_trans ?_ (by assumption))))).mono ?_);rintro _ v2 ⟨rfl,hbv2⟩;have hkv2:Below V3.heap.size V3 v2:=(by (repeat (first|assumption|exact Below.refl _ _|refine keep_drew ?_|refine keep_alloc ?_ _|refine keep_trans ?_ (by assumption))));obtain ⟨xv20,xv21,xv22,xv2l⟩:=c3_of (keepq hkv2 Q0.out);obtain ⟨ev20,ev21,ev22,ev2l⟩:=c3_of (keepq hkv2 Q5.out);obtain ⟨hv20,hv21,hv22,hv2l⟩:=c3_of (keepq hkv2 Q7.out);obtain ⟨jv20,jv21,jv22,jv2l⟩:=c3_of (keepq hkv2 Q9.out))|(go_at_call 24;(with_reducible refine (M3.out _ (by (repeat (first|assumption|exact Below.refl _ _|refine keep_drew ?_|refine keep_alloc ?_ _|refine keep_trans ?_ (by assumption))))).mono ?_);rintro _ v3 ⟨rfl,hbv3⟩;have hkv3:Below V3.heap.size V3 v3:=(by (repeat (first|assumption|exact Below.refl _ _|refine keep_drew ?_|refine keep_alloc ?_ _|refine keep_trans ?_ (by assumption))));obtain ⟨xv30,xv31,xv32,xv3l⟩:=c3_of (keepq hkv3 Q0.out);obtain ⟨ev30,ev31,ev32,ev3l⟩:=c3_of (keepq hkv3 Q5.out);obtain ⟨hv30,hv31,hv32,hv3l⟩:=c3_of (keepq hkv3 Q7.out);obtain ⟨jv30,jv31,jv32,jv3l⟩:=c3_of (keepq hkv3 Q9.out))|(go_at_call 20;refine (awake4_c _).mono ?_;rintro _ wz ⟨rfl,hbz⟩)|fail)
 refine bodyPost_ret (v := .bool true) ?_ rfl ⟨rfl,keep_trans HB3.out (show Below V3.heap.size V3 wz by (repeat (first|assumption|exact Below.refl _ _|refine keep_drew ?_|refine keep_alloc ?_ _|refine keep_trans ?_ (by assumption))))⟩
 simp[results,Tryz.f17,go_sem]
theorem lforms_uv (r C:Int) (a:Option Addr) (n c:Nat) (aR:Option Addr) (nR cR:Nat) (aK:Option Addr) (nK cK:Nat) (aM:Option Addr) (nM cM:Nat) (p0 p1 p2:Int) (w:World) (h0:¬300<n) (h1:¬40<nR) (h2:¬40<nK) (h3:¬40<nM) (R1 R2 R3:Int) (k1 k2 k3:Nat) (X1 X2 X3:List Int) (er1 er2 er3:Int) (t1 t2 t3 s3:Int) (S2:t1≠0→t2=t1) (S3:t2≠0→t3=t2) (z1:Nat) (Y1:List Int) (hm1:madeB R1 R1 X1 er1 r r Y1 0=true) (z2:Nat) (Y2:List Int) (h3:t3=0) (z3:Nat) (Y3:List Int) (h4:s3=0) (hm2:madeB R2 R2 X2 er2 r r Y2 t3=true) (hm3:madeB R3 R3 X3 er3 r r Y3 s3=true)
  (HA:∀W,Below w.heap.size w W→Calls Tryz.prog 22 #[.agg #[.int .i64 r,.int .i64 C,.slice a n c]] W fun e w'=>e = .returned (.int .i64 0)∧Below W.heap.size W w')
  (H1:∀W,Below w.heap.size w W→Calls Tryz.prog 83 #[.agg #[.int .i64 r,.int .i64 C,.slice a n c]] W fun e w'=>∃a2 c2,e = .returned (.tuple #[.agg #[.int .i64 R1,.int .i64 R1,.slice a2 k1 c2],.int .i64 er1])∧IC w' a2 k1 X1∧Below W.heap.size W w')
  (H2:∀W,Below w.heap.size w W→Calls Tryz.prog 84 #[.agg #[.int .i64 r,.int .i64 C,.slice a n c],.slice aR nR cR,.slice aK nK cK,.slice aM nM cM] W fun e w'=>∃a2 c2,e = .returned (.tuple #[.agg #[.int .i64 R2,.int .i64 R2,.slice a2 k2 c2],.int .i64 er2])∧IC w' a2 k2 X2∧Below W.heap.size W w')
  (H3:∀W,Below w.heap.size w W→Calls Tryz.prog 85 #[.agg #[.int .i64 r,.int .i64 C,.slice a n c],.agg #[.int .i64 p0,.int .i64 p1,.int .i64 p2]] W fun e w'=>∃a2 c2,e = .returned (.tuple #[.agg #[.int .i64 R3,.int .i64 R3,.slice a2 k3 c2],.int .i64 er3])∧IC w' a2 k3 X3∧Below W.heap.size W w')
  (P0:∀W,Below w.heap.size w W→Calls Tryz.prog 86 #[.slice aR nR cR,.int .i64 r] W fun e w'=>e = .returned (.int .i64 t1)∧Below W.heap.size W w')
  (P1:t1=0→∀W,Below w.heap.size w W→Calls Tryz.prog 86 #[.slice aK nK cK,.int .i64 r] W fun e w'=>e = .returned (.int .i64 t2)∧Below W.heap.size W w')
  (P2:t2=0→∀W,Below w.heap.size w W→Calls Tryz.prog 86 #[.slice aM nM cM,.int .i64 r] W fun e w'=>e = .returned (.int .i64 t3)∧Below W.heap.size W w')
  (P3:∀W b,IC W (some ⟨b,3,none⟩) 3 [p0,p1,p2]→Calls Tryz.prog 86 #[.slice (some ⟨b,3,none⟩) 3 3,.int .i64 3] W fun e w'=>e = .returned (.int .i64 s3)∧Below W.heap.size W w')
  (HR1:∀W,Below w.heap.size w W→Calls Tryz.prog 89 #[.agg #[.int .i64 r,.int .i64 C,.slice a n c]] W fun e w'=>∃a2 c2,e = .returned (.agg #[.int .i64 r,.int .i64 r,.slice a2 z1 c2])∧(∀b2 o2,a2=some ⟨b2,o2,none⟩→W.heap.size≤b2)∧IC w' a2 z1 Y1∧Below W.heap.size W w')
  (HR2:∀W,Below w.heap.size w W→Calls Tryz.prog 87 #[.agg #[.int .i64 r,.int .i64 C,.slice a n c],.slice aR nR cR,.slice aK nK cK,.slice aM nM cM] W fun e w'=>∃a2 c2,e = .returned (.agg #[.int .i64 r,.int .i64 r,.slice a2 z2 c2])∧(∀b2 o2,a2=some ⟨b2,o2,none⟩→W.heap.size≤b2)∧IC w' a2 z2 Y2∧Below W.heap.size W w')
  (HR3:∀W,Below w.heap.size w W→Calls Tryz.prog 88 #[.agg #[.int .i64 r,.int .i64 C,.slice a n c],.agg #[.int .i64 p0,.int .i64 p1,.int .i64 p2]] W fun e w'=>∃a2 c2,e = .returned (.agg #[.int .i64 r,.int .i64 r,.slice a2 z3 c2])∧(∀b2 o2,a2=some ⟨b2,o2,none⟩→W.heap.size≤b2)∧IC w' a2 z3 Y3∧Below W.heap.size W w')
  : Calls Tryz.prog 17 #[.agg #[.int .i64 r,.int .i64 C,.slice a n c],.agg #[.slice aR nR cR,.slice aK nK cK,.slice aM nM cM,.int .i64 p0,.int .i64 p1,.int .i64 p2]] w fun e w'=>e = .returned (.bool true)∧Below w.heap.size w w':=by
 have hg0:decide ((300:Int)<(n:Int))=false:=decide_eq_false (by omega)
 have hg1:decide ((40:Int)<(nR:Int))=false:=decide_eq_false (by omega)
 have hg2:decide ((40:Int)<(nK:Int))=false:=decide_eq_false (by omega)
 have hg3:decide ((40:Int)<(nM:Int))=false:=decide_eq_false (by omega)
 have e3:(t3==0)=true:=by simpa using h3
 have e4:(s3==0)=true:=by simpa using h4
 clear h3 h4
 have HA:=Lib.hid HA
 have H1:=Lib.hid H1
 have H2:=Lib.hid H2
 have H3:=Lib.hid H3
 have P0:=Lib.hid P0
 have P1:=Lib.hid P1
 have P2:=Lib.hid P2
 have P3:=Lib.hid P3
 have HR1:=Lib.hid HR1
 have hm1:=Lib.hid hm1
 have hm2:=Lib.hid hm2
 have hm3:=Lib.hid hm3
 have S2:=Lib.hid S2
 have S3:=Lib.hid S3
 have e3:=Lib.hid e3
 have e4:=Lib.hid e4
 have HR2:=Lib.hid HR2
 have HR3:=Lib.hid HR3
 go_enter Tryz.func17,Tryz.ntmps17
 go_upto_region 1 with fail
 have fsz:((w.alloc (.cells #[.int .i64 r,.int .i64 C,.slice a n c] 24)).alloc (.cells #[.slice aR nR cR,.slice aK nK cK,.slice aM nM cM,.int .i64 p0,.int .i64 p1,.int .i64 p2] 98)).heap.size=w.heap.size+2:=by simp only[World.size_alloc] <;> omega
 have fB:Below w.heap.size w ((w.alloc (.cells #[.int .i64 r,.int .i64 C,.slice a n c] 24)).alloc (.cells #[.slice aR nR cR,.slice aK nK cK,.slice aM nM cM,.int .i64 p0,.int .i64 p1,.int .i64 p2] 98)):=((Below.refl _ _).alloc (Nat.le_refl _) _).alloc (by simp only[World.size_alloc];omega) _
 have fq0:((w.alloc (.cells #[.int .i64 r,.int .i64 C,.slice a n c] 24)).alloc (.cells #[.slice aR nR cR,.slice aK nK cK,.slice aM nM cM,.int .i64 p0,.int .i64 p1,.int .i64 p2] 98)).heap[w.heap.size]?=some (.cells #[.int .i64 r,.int .i64 C,.slice a n c] 24 (0,0)):=by have h:=World.alloc_heap_new w (.cells #[.int .i64 r,.int .i64 C,.slice a n c] 24);exact (Below.heap_alloc _ _ _ (by simp only[World.size_alloc];omega)).trans (h)
 have fq1:((w.alloc (.cells #[.int .i64 r,.int .i64 C,.slice a n c] 24)).alloc (.cells #[.slice aR nR cR,.slice aK nK cK,.slice aM nM cM,.int .i64 p0,.int .i64 p1,.int .i64 p2] 98)).heap[w.heap.size+1]?=some (.cells #[.slice aR nR cR,.slice aK nK cK,.slice aM nM cM,.int .i64 p0,.int .i64 p1,.int .i64 p2] 98 (0,0)):=by have h:=World.alloc_heap_new (w.alloc (.cells #[.int .i64 r,.int .i64 C,.slice a n c] 24)) (.cells #[.slice aR nR cR,.slice aK nK cK,.slice aM nM cM,.int .i64 p0,.int .i64 p1,.int .i64 p2] 98);simp only[World.size_alloc] at h;exact h
 generalize ((w.alloc (.cells #[.int .i64 r,.int .i64 C,.slice a n c] 24)).alloc (.cells #[.slice aR nR cR,.slice aK nK cK,.slice aM nM cM,.int .i64 p0,.int .i64 p1,.int .i64 p2] 98))=W0 at fsz fB fq0 fq1 ⊢
 have Q0:=Lib.hid fq0
 have Q1:=Lib.hid fq1
 have FB:=Lib.hid fB
 obtain ⟨x0,x1,x2,xl⟩:=c3_of fq0
 obtain ⟨y0,y1,y2,y3,y4,y5,yl⟩:=c6_of fq1
 clear fq0 fq1 fsz fB
 go_upto_region 4 with (first|(go_at_call 19;(with_reducible refine (lgreat_c r C a n c 300 _).mono ?_);rintro _ w1 ⟨rfl,hbw1⟩;have hkw1:Below W0.heap.size W0 w1:=(by (repeat (first|assumption|exact Below.refl _ _|refine keep_drew ?_|refine keep_alloc ?_ _|refine keep_trans ?_ (by assumption))));obtain ⟨xw10,xw11,xw12,xw1l⟩:=c3_of (keepq hkw1 Q0.out);obtain ⟨yw10,yw11,yw12,yw13,yw14,yw15,yw1l⟩:=c6_of (keepq hkw1 Q1.out))|(go_at_call 83;(with_reducible refine (H1.out _ (keep_trans FB.out (by (repeat (first|assumption|exact Below.refl _ _|refine keep_drew ?_|refine keep_alloc ?_ _|refine keep_trans ?_ (by assumption)))))).mono ?_);rintro _ u0 ⟨b1,d1,rfl,hi0,hbu0⟩;have hku0:Below W0.heap.size W0 u0:=(by (repeat (first|assumption|exact Below.refl _ _|refine keep_drew ?_|refine keep_alloc ?_ _|refine keep_trans ?_ (by assumption)))))|fail)
 have gsz:(u0.alloc (.cells #[.int .i64 R1,.int .i64 R1,.slice b1 k1 d1] 24)).heap.size=u0.heap.size+1:=by simp only[World.size_alloc]
 have gB:Below u0.heap.size u0 (u0.alloc (.cells #[.int .i64 R1,.int .i64 R1,.slice b1 k1 d1] 24)):=(Below.refl _ _).alloc (Nat.le_refl _) _
 have gq0:(u0.alloc (.cells #[.int .i64 R1,.int .i64 R1,.slice b1 k1 d1] 24)).heap[u0.heap.size]?=some (.cells #[.int .i64 R1,.int .i64 R1,.slice b1 k1 d1] 24 (0,0)):=by have h:=World.alloc_heap_new u0 (.cells #[.int .i64 R1,.int .i64 R1,.slice b1 k1 d1] 24);exact h
 generalize (u0.alloc (.cells #[.int .i64 R1,.int .i64 R1,.slice b1 k1 d1] 24))=V1 at gsz gB gq0 ⊢
 have hkk:=keep_trans hku0 gB
 have NQ0:=Lib.hid (keepq hkk Q0.out)
 have NQ1:=Lib.hid (keepq hkk Q1.out)
 have NB:=Lib.hid (keep_trans FB.out hkk)
 have NQ5:=Lib.hid gq0
 have NI1:=Lib.hid (hi0.mono gB)
 clear gsz gq0 gB hkk hku0 hbu0 hi0 x0 x1 x2 xl y0 y1 y2 y3 y4 y5 yl FB Q1 Q0  xw10 xw11 xw12 xw1l yw10 yw11 yw12 yw13 yw14 yw15 yw1l hkw1 hbw1
 have Q0:=NQ0;clear NQ0
 have Q5:=NQ5;clear NQ5
 have Q1:=NQ1;clear NQ1
 have I1:=NI1;clear NI1
 have HB1:=NB;clear NB
 obtain ⟨x0,x1,x2,xl⟩:=c3_of Q0.out
 obtain ⟨e0,e1,e2,el⟩:=c3_of Q5.out
 obtain ⟨y0,y1,y2,y3,y4,y5,yl⟩:=c6_of Q1.out
 go_upto_region 5 with (first|(go_at_call 84;(with_reducible refine (H2.out _ (keep_trans HB1.out (by (repeat (first|assumption|exact Below.refl _ _|refine keep_drew ?_|refine keep_alloc ?_ _|refine keep_trans ?_ (by assumption)))))).mono ?_);rintro _ u1 ⟨b2,d2,rfl,hi1,hbu1⟩;have hku1:Below V1.heap.size V1 u1:=(by (repeat (first|assumption|exact Below.refl _ _|refine keep_drew ?_|refine keep_alloc ?_ _|refine keep_trans ?_ (by assumption)))))|fail)
 have gsz:(u1.alloc (.cells #[.int .i64 R2,.int .i64 R2,.slice b2 k2 d2] 24)).heap.size=u1.heap.size+1:=by simp only[World.size_alloc]
 have gB:Below u1.heap.size u1 (u1.alloc (.cells #[.int .i64 R2,.int .i64 R2,.slice b2 k2 d2] 24)):=(Below.refl _ _).alloc (Nat.le_refl _) _
 have gq0:(u1.alloc (.cells #[.int .i64 R2,.int .i64 R2,.slice b2 k2 d2] 24)).heap[u1.heap.size]?=some (.cells #[.int .i64 R2,.int .i64 R2,.slice b2 k2 d2] 24 (0,0)):=by have h:=World.alloc_heap_new u1 (.cells #[.int .i64 R2,.int .i64 R2,.slice b2 k2 d2] 24);exact h
 generalize (u1.alloc (.cells #[.int .i64 R2,.int .i64 R2,.slice b2 k2 d2] 24))=V2 at gsz gB gq0 ⊢
 have hkk:=keep_trans hku1 gB
 have NQ0:=Lib.hid (keepq hkk Q0.out)
 have NQ5:=Lib.hid (keepq hkk Q5.out)
 have NQ1:=Lib.hid (keepq hkk Q1.out)
 have NB:=Lib.hid (keep_trans HB1.out hkk)
 have NI1:=Lib.hid (I1.out.mono hkk)
 have NQ7:=Lib.hid gq0
 have NI2:=Lib.hid (hi1.mono gB)
 clear gsz gq0 gB hkk hku1 hbu1 hi1 x0 x1 x2 xl e0 e1 e2 el y0 y1 y2 y3 y4 y5 yl HB1 Q1 Q0 Q5 I1
 have Q0:=NQ0;clear NQ0
 have Q5:=NQ5;clear NQ5
 have Q7:=NQ7;clear NQ7
 have Q1:=NQ1;clear NQ1
 have I1:=NI1;clear NI1
 have I2:=NI2;clear NI2
 have HB2:=NB;clear NB
 obtain ⟨x0,x1,x2,xl⟩:=c3_of Q0.out
 obtain ⟨e0,e1,e2,el⟩:=c3_of Q5.out
 obtain ⟨h0,h1,h2,hl⟩:=c3_of Q7.out
 obtain ⟨y0,y1,y2,y3,y4,y5,yl⟩:=c6_of Q1.out
 go_upto_region 6 with (first|(go_at_call 85;(with_reducible refine (H3.out _ (keep_trans HB2.out (by (repeat (first|assumption|exact Below.refl _ _|refine keep_drew ?_|refine keep_alloc ?_ _|refine keep_trans ?_ (by assumption)))))).mono ?_);rintro _ u2 ⟨b3,d3,rfl,hi2,hbu2⟩;have hku2:Below V2.heap.size V2 u2:=(by (repeat (first|assumption|exact Below.refl _ _|refine keep_drew ?_|refine keep_alloc ?_ _|refine keep_trans ?_ (by assumption)))))|fail)
 have gsz:(u2.alloc (.cells #[.int .i64 R3,.int .i64 R3,.slice b3 k3 d3] 24)).heap.size=u2.heap.size+1:=by simp only[World.size_alloc]
 have gB:Below u2.heap.size u2 (u2.alloc (.cells #[.int .i64 R3,.int .i64 R3,.slice b3 k3 d3] 24)):=(Below.refl _ _).alloc (Nat.le_refl _) _
 have gq0:(u2.alloc (.cells #[.int .i64 R3,.int .i64 R3,.slice b3 k3 d3] 24)).heap[u2.heap.size]?=some (.cells #[.int .i64 R3,.int .i64 R3,.slice b3 k3 d3] 24 (0,0)):=by have h:=World.alloc_heap_new u2 (.cells #[.int .i64 R3,.int .i64 R3,.slice b3 k3 d3] 24);exact h
 generalize (u2.alloc (.cells #[.int .i64 R3,.int .i64 R3,.slice b3 k3 d3] 24))=V3 at gsz gB gq0 ⊢
 have hkk:=keep_trans hku2 gB
 have NQ0:=Lib.hid (keepq hkk Q0.out)
 have NQ5:=Lib.hid (keepq hkk Q5.out)
 have NQ7:=Lib.hid (keepq hkk Q7.out)
 have NQ1:=Lib.hid (keepq hkk Q1.out)
 have NB:=Lib.hid (keep_trans HB2.out hkk)
 have NI1:=Lib.hid (I1.out.mono hkk)
 have NI2:=Lib.hid (I2.out.mono hkk)
 have NQ9:=Lib.hid gq0
 have NI3:=Lib.hid (hi2.mono gB)
 clear gsz gq0 gB hkk hku2 hbu2 hi2 x0 x1 x2 xl e0 e1 e2 el h0 h1 h2 hl y0 y1 y2 y3 y4 y5 yl HB2 Q1 Q0 Q5 Q7 I1 I2
 have Q0:=NQ0;clear NQ0
 have Q5:=NQ5;clear NQ5
 have Q7:=NQ7;clear NQ7
 have Q9:=NQ9;clear NQ9
 have Q1:=NQ1;clear NQ1
 have I1:=NI1;clear NI1
 have I2:=NI2;clear NI2
 have I3:=NI3;clear NI3
 have HB3:=NB;clear NB
 obtain ⟨x0,x1,x2,xl⟩:=c3_of Q0.out
 obtain ⟨e0,e1,e2,el⟩:=c3_of Q5.out
 obtain ⟨h0,h1,h2,hl⟩:=c3_of Q7.out
 obtain ⟨j0,j1,j2,jl⟩:=c3_of Q9.out
 obtain ⟨y0,y1,y2,y3,y4,y5,yl⟩:=c6_of Q1.out
 go_upto_region 11 with (first|(go_at_call 22;(with_reducible refine (HA.out _ (keep_trans HB3.out (by (repeat (first|assumption|exact Below.refl _ _|refine keep_drew ?_|refine keep_alloc ?_ _|refine keep_trans ?_ (by assumption)))))).mono ?_);rintro _ v0 ⟨rfl,hbv0⟩;have hkv0:Below V3.heap.size V3 v0:=(by (repeat (first|assumption|exact Below.refl _ _|refine keep_drew ?_|refine keep_alloc ?_ _|refine keep_trans ?_ (by assumption))));obtain ⟨xv00,xv01,xv02,xv0l⟩:=c3_of (keepq hkv0 Q0.out);obtain ⟨ev00,ev01,ev02,ev0l⟩:=c3_of (keepq hkv0 Q5.out);obtain ⟨hv00,hv01,hv02,hv0l⟩:=c3_of (keepq hkv0 Q7.out);obtain ⟨jv00,jv01,jv02,jv0l⟩:=c3_of (keepq hkv0 Q9.out);obtain ⟨yv00,yv01,yv02,yv03,yv04,yv05,yv0l⟩:=c6_of (keepq hkv0 Q1.out))|fail)
 have hq9:=World.alloc_heap_new v0 (.cells #[.slice aR nR cR,.slice aK nK cK,.slice aM nM cM] 22)
 have hb9:Below V3.heap.size V3 (v0.alloc (.cells #[.slice aR nR cR,.slice aK nK cK,.slice aM nM cM] 22)):=keep_alloc hkv0 _
 have hk9:v0.heap.size<(v0.alloc (.cells #[.slice aR nR cR,.slice aK nK cK,.slice aM nM cM] 22)).heap.size:=q_lt hq9
 generalize (v0.alloc (.cells #[.slice aR nR cR,.slice aK nK cK,.slice aM nM cM] 22))=V4 at hq9 hb9 hk9 ⊢
 have Q9a:=Lib.hid hq9
 have HB4:=Lib.hid (keep_trans HB3.out hb9)
 have HV4:=Lib.hid hb9
 clear x0 x1 x2 xl e0 e1 e2 el h0 h1 h2 hl j0 j1 j2 jl y0 y1 y2 y3 y4 y5 yl hbv0 hkv0 xv00 xv01 xv02 xv0l ev00 ev01 ev02 ev0l hv00 hv01 hv02 hv0l jv00 jv01 jv02 jv0l yv00 yv01 yv02 yv03 yv04 yv05 yv0l hq9 hb9
 go_loopw [12,14,96] (fun s12 _ s96 wr=>∃(k:Nat) (t:Int),k≤3∧s96 = .int .i64 (k:Int)∧s12 = .int .i64 t∧(k=0→t=0)∧(k=1→t=t1)∧(k=2→t=t2)∧(k=3→t=t3)∧Hid (Below V4.heap.size V4 wr)) (fun _ _ s96 _=>3 - (intOf s96).toNat)
 case atStart=>exact ⟨0,0,by omega,rfl,rfl,fun _=>rfl,fun h=>absurd h (by decide),fun h=>absurd h (by decide),fun h=>absurd h (by decide),Below.refl _ _⟩
 case round =>
  obtain ⟨k,t,hk,rfl,rfl,T0,T1,T2,T3,hbr⟩:=hrel
  have hq:=keepq hbr.out Q9a.out
  have hqz:=q_lt hq
  have hb4r:=keep_trans HV4.out hbr.out
  have N0:=Lib.hid (keepq hb4r Q0.out)
  obtain ⟨x0,x1,x2,xl⟩:=c3_of N0.out
  clear hb4r
  by_cases ek0:k=0
  ·subst ek0
   have et:=(T0 rfl).symm
   subst et
   clear T0 T1 T2 T3
   have g0:=q_cell hq 0
   go_wp2_with (first|(go_at_call 86;(with_reducible refine (P0.out _ (keep_trans (keep_trans HB4.out hbr.out) (by (repeat (first|assumption|exact Below.refl _ _|refine keep_drew ?_|refine keep_alloc ?_ _|refine keep_trans ?_ (by assumption)))))).mono ?_);rintro _ w1 ⟨rfl,hbw1⟩)|fail)
   go_roundw
   case rel=>exact ⟨1,_,by omega,by go_num,rfl,fun h=>absurd h (by decide),fun _=>rfl,fun h=>absurd h (by decide),fun h=>absurd h (by decide),keep_trans hbr.out (show Below wr.heap.size wr w1 by (repeat (first|assumption|exact Below.refl _ _|refine keep_drew ?_|refine keep_alloc ?_ _|refine keep_trans ?_ (by assumption))))⟩
   case measure=>simp[intOf]
  by_cases ek1:k=1
  ·subst ek1
   have et:=(T1 rfl).symm
   subst et
   clear T0 T1 T2 T3
   have g0:=q_cell hq 1
   by_cases hz:t1=0
   ·have ez:(t1==0)=true:=by simpa using hz
    have hz:=Lib.hid hz
    go_wp2_with (first|(go_at_call 86;(with_reducible refine (P1.out hz.out _ (keep_trans (keep_trans HB4.out hbr.out) (by (repeat (first|assumption|exact Below.refl _ _|refine keep_drew ?_|refine keep_alloc ?_ _|refine keep_trans ?_ (by assumption)))))).mono ?_);rintro _ w1 ⟨rfl,hbw1⟩)|fail)
    go_roundw
    case rel=>exact ⟨2,_,by omega,by go_num,rfl,fun h=>absurd h (by decide),fun h=>absurd h (by decide),fun _=>rfl,fun h=>absurd h (by decide),keep_trans hbr.out (show Below wr.heap.size wr w1 by (repeat (first|assumption|exact Below.refl _ _|refine keep_drew ?_|refine keep_alloc ?_ _|refine keep_trans ?_ (by assumption))))⟩
    case measure=>simp[intOf]
   ·have ez:(t1==0)=false:=by simpa using hz
    have hz:=Lib.hid hz
    go_wp2_with fail
    go_roundw
    case rel=>exact ⟨2,_,by omega,by go_num,rfl,fun h=>absurd h (by decide),fun h=>absurd h (by decide),fun _=>(S2.out hz.out).symm,fun h=>absurd h (by decide),hbr.out⟩
    case measure=>simp[intOf]
  by_cases ek2:k=2
  ·subst ek2
   have et:=(T2 rfl).symm
   subst et
   clear T0 T1 T2 T3
   have g0:=q_cell hq 2
   by_cases hz:t2=0
   ·have ez:(t2==0)=true:=by simpa using hz
    have hz:=Lib.hid hz
    go_wp2_with (first|(go_at_call 86;(with_reducible refine (P2.out hz.out _ (keep_trans (keep_trans HB4.out hbr.out) (by (repeat (first|assumption|exact Below.refl _ _|refine keep_drew ?_|refine keep_alloc ?_ _|refine keep_trans ?_ (by assumption)))))).mono ?_);rintro _ w1 ⟨rfl,hbw1⟩)|fail)
    go_roundw
    case rel=>exact ⟨3,_,by omega,by go_num,rfl,fun h=>absurd h (by decide),fun h=>absurd h (by decide),fun h=>absurd h (by decide),fun _=>rfl,keep_trans hbr.out (show Below wr.heap.size wr w1 by (repeat (first|assumption|exact Below.refl _ _|refine keep_drew ?_|refine keep_alloc ?_ _|refine keep_trans ?_ (by assumption))))⟩
    case measure=>simp[intOf]
   ·have ez:(t2==0)=false:=by simpa using hz
    have hz:=Lib.hid hz
    go_wp2_with fail
    go_roundw
    case rel=>exact ⟨3,_,by omega,by go_num,rfl,fun h=>absurd h (by decide),fun h=>absurd h (by decide),fun h=>absurd h (by decide),fun _=>(S3.out hz.out).symm,hbr.out⟩
    case measure=>simp[intOf]
  have ek:k=3:=by omega
  subst ek
  have et:=(T3 rfl).symm
  subst et
  clear T0 T1 T2 T3
  have HV5:=Lib.hid (keep_trans HV4.out hbr.out)
  have HB5:=Lib.hid (keep_trans HB3.out HV5.out)
  clear hq hqz hbr x0 x1 x2 xl N0 hk ek0 ek1 ek2
  have NQ0:=Lib.hid (keepq HV5.out Q0.out)
  have NQ5:=Lib.hid (keepq HV5.out Q5.out)
  have NQ7:=Lib.hid (keepq HV5.out Q7.out)
  have NQ9:=Lib.hid (keepq HV5.out Q9.out)
  have NQ1:=Lib.hid (keepq HV5.out Q1.out)
  have NI1:=Lib.hid (I1.out.mono HV5.out)
  have NI2:=Lib.hid (I2.out.mono HV5.out)
  have NI3:=Lib.hid (I3.out.mono HV5.out)
  obtain ⟨x0,x1,x2,xl⟩:=c3_of NQ0.out
  obtain ⟨e0,e1,e2,el⟩:=c3_of NQ5.out
  obtain ⟨h0,h1,h2,hl⟩:=c3_of NQ7.out
  obtain ⟨j0,j1,j2,jl⟩:=c3_of NQ9.out
  obtain ⟨y0,y1,y2,y3,y4,y5,yl⟩:=c6_of NQ1.out
  go_upto_region 18 with (first|(go_at_call 86;(with_reducible refine (P3.out _ _ ((ic_box6 NQ1.out).mono (by (repeat (first|assumption|exact Below.refl _ _|refine keep_drew ?_|refine keep_alloc ?_ _|refine keep_trans ?_ (by assumption)))))).mono ?_);rintro _ s0 ⟨rfl,hbs0⟩;have hks0:Below wr.heap.size wr s0:=(by (repeat (first|assumption|exact Below.refl _ _|refine keep_drew ?_|refine keep_alloc ?_ _|refine keep_trans ?_ (by assumption)))))|fail)
  have gsz:((s0.alloc (.cells #[.int .i64 0,.int .i64 0,.slice none 0 0] 24)).alloc (.cells #[.int .i64 0,.int .i64 0,.slice none 0 0] 24)).heap.size=s0.heap.size+2:=by simp only[World.size_alloc] <;> omega
  have gB:Below s0.heap.size s0 ((s0.alloc (.cells #[.int .i64 0,.int .i64 0,.slice none 0 0] 24)).alloc (.cells #[.int .i64 0,.int .i64 0,.slice none 0 0] 24)):=((Below.refl _ _).alloc (Nat.le_refl _) _).alloc (by simp only[World.size_alloc];omega) _
  have gq0:((s0.alloc (.cells #[.int .i64 0,.int .i64 0,.slice none 0 0] 24)).alloc (.cells #[.int .i64 0,.int .i64 0,.slice none 0 0] 24)).heap[s0.heap.size]?=some (.cells #[.int .i64 0,.int .i64 0,.slice none 0 0] 24 (0,0)):=by have h:=World.alloc_heap_new s0 (.cells #[.int .i64 0,.int .i64 0,.slice none 0 0] 24);exact (Below.heap_alloc _ _ _ (by simp only[World.size_alloc];omega)).trans (h)
  have gq1:((s0.alloc (.cells #[.int .i64 0,.int .i64 0,.slice none 0 0] 24)).alloc (.cells #[.int .i64 0,.int .i64 0,.slice none 0 0] 24)).heap[s0.heap.size+1]?=some (.cells #[.int .i64 0,.int .i64 0,.slice none 0 0] 24 (0,0)):=by have h:=World.alloc_heap_new (s0.alloc (.cells #[.int .i64 0,.int .i64 0,.slice none 0 0] 24)) (.cells #[.int .i64 0,.int .i64 0,.slice none 0 0] 24);simp only[World.size_alloc] at h;exact h
  generalize ((s0.alloc (.cells #[.int .i64 0,.int .i64 0,.slice none 0 0] 24)).alloc (.cells #[.int .i64 0,.int .i64 0,.slice none 0 0] 24))=V6 at gsz gB gq0 gq1 ⊢
  have HV6:=Lib.hid (keep_trans hks0 gB)
  have HS6:Hid (wr.heap.size≤s0.heap.size):=hks0.size
  have HS7:Hid (V6.heap.size=s0.heap.size+2):=gsz
  have QU:=Lib.hid gq0
  have QV:=Lib.hid gq1
  clear x0 x1 x2 xl e0 e1 e2 el h0 h1 h2 hl j0 j1 j2 jl y0 y1 y2 y3 y4 y5 yl gsz gq0 gq1 gB hbs0 hks0
  obtain ⟨x0,x1,x2,xl⟩:=c3_of (Lib.hid (keepq HV6.out NQ0.out)).out
  obtain ⟨y0,y1,y2,y3,y4,y5,yl⟩:=c6_of (Lib.hid (keepq HV6.out NQ1.out)).out
  obtain ⟨l0,l1,l2,ll⟩:=c3_of QU.out
  go_upto_region 20 with (first|(go_at_call 87;refine (HR2.out _ (keep_trans HB5.out HV6.out)).mono ?_;rintro _ w7 ⟨a7,c7,rfl,hf7,hi7,hbw7⟩;obtain ⟨l70,l71,l72,l7l⟩:=c3_of (keepq hbw7 QU.out);obtain ⟨lf0,lf1,lf2⟩:=f3_of (keepq hbw7 QU.out))|fail)
  have g3:=st3_q (x0 := .int .i64 r) (x1 := .int .i64 r) (x2 := .slice a7 z2 c7) (keepq hbw7 QU.out)
  have hb3:=st3_below (x0 := .int .i64 r) (x1 := .int .i64 r) (x2 := .slice a7 z2 c7) (b:=s0.heap.size) (keep_trans HV6.out hbw7) HS6.out
  have i7:=hi7.st3 (x0 := .int .i64 r) (x1 := .int .i64 r) (x2 := .slice a7 z2 c7) (b:=s0.heap.size) (fun b o e=>by have:=hf7 b o e;have:=HS7.out;omega)
  have q4:=q_other (i:=2) (q_other (i:=1) (q_other (i:=0) (keepq hbw7 QV.out) (show s0.heap.size+1≠s0.heap.size by omega) (.int .i64 r)) (show s0.heap.size+1≠s0.heap.size by omega) (.int .i64 r)) (show s0.heap.size+1≠s0.heap.size by omega) (.slice a7 z2 c7)
  have hn7:∀b2 off,a7=some ⟨b2,off,none⟩→b2≠s0.heap.size+1:=fun b o e=>by have:=hf7 b o e;have:=HS7.out;omega
  have hz7:s0.heap.size+2≤(((w7.setCell ⟨s0.heap.size,0,none⟩ (.int .i64 r)).setCell ⟨s0.heap.size,1,none⟩ (.int .i64 r)).setCell ⟨s0.heap.size,2,none⟩ (.slice a7 z2 c7)).heap.size:=by have h1:=hbw7.size;have h2:=HS7.out;simp only[World.size_setCell];omega
  generalize (((w7.setCell ⟨s0.heap.size,0,none⟩ (.int .i64 r)).setCell ⟨s0.heap.size,1,none⟩ (.int .i64 r)).setCell ⟨s0.heap.size,2,none⟩ (.slice a7 z2 c7))=V7 at i7 q4 g3 hb3 hz7 ⊢
  have HV7:=Lib.hid hb3
  have QU7:=Lib.hid g3
  have QV7:=Lib.hid q4
  have IU7:=Lib.hid i7
  have HN7:=Lib.hid hn7
  have HZ7:=Lib.hid hz7
  clear x0 x1 x2 xl y0 y1 y2 y3 y4 y5 yl l0 l1 l2 ll l70 l71 l72 l7l lf0 lf1 lf2 g3 hb3 i7 q4 hn7 hz7 hf7 hi7 hbw7
  obtain ⟨x0,x1,x2,xl⟩:=c3_of (Lib.hid (keepq HV7.out NQ0.out)).out
  obtain ⟨y0,y1,y2,y3,y4,y5,yl⟩:=c6_of (Lib.hid (keepq HV7.out NQ1.out)).out
  obtain ⟨l0,l1,l2,ll⟩:=c3_of QV7.out
  go_upto_region 22 with (first|(go_at_call 88;refine (HR3.out _ (keep_trans HB5.out HV7.out)).mono ?_;rintro _ w8 ⟨a8,c8,rfl,hf8,hi8,hbw8⟩;obtain ⟨l80,l81,l82,l8l⟩:=c3_of (keepq hbw8 QV7.out);obtain ⟨lf0,lf1,lf2⟩:=f3_of (keepq hbw8 QV7.out))|fail)
  have g3:=st3_q (x0 := .int .i64 r) (x1 := .int .i64 r) (x2 := .slice a8 z3 c8) (keepq hbw8 QV7.out)
  have hb3:=st3_below (x0 := .int .i64 r) (x1 := .int .i64 r) (x2 := .slice a8 z3 c8) (b:=s0.heap.size+1) (keep_trans HV7.out hbw8) (Nat.le_succ_of_le HS6.out)
  have i8:=hi8.st3 (x0 := .int .i64 r) (x1 := .int .i64 r) (x2 := .slice a8 z3 c8) (b:=s0.heap.size+1) (fun b o e=>by have:=hf8 b o e;have:=HZ7.out;omega)
  have i7:=(IU7.out.mono hbw8).st3 (x0 := .int .i64 r) (x1 := .int .i64 r) (x2 := .slice a8 z3 c8) (b:=s0.heap.size+1) HN7.out
  have q4:=q_other (i:=2) (q_other (i:=1) (q_other (i:=0) (keepq hbw8 QU7.out) (show s0.heap.size≠s0.heap.size+1 by omega) (.int .i64 r)) (show s0.heap.size≠s0.heap.size+1 by omega) (.int .i64 r)) (show s0.heap.size≠s0.heap.size+1 by omega) (.slice a8 z3 c8)
  generalize (((w8.setCell ⟨s0.heap.size+1,0,none⟩ (.int .i64 r)).setCell ⟨s0.heap.size+1,1,none⟩ (.int .i64 r)).setCell ⟨s0.heap.size+1,2,none⟩ (.slice a8 z3 c8))=V8 at i7 i8 q4 g3 hb3 ⊢
  have HV8:=Lib.hid hb3
  have QU8:=Lib.hid q4
  have QV8:=Lib.hid g3
  have IU8:=Lib.hid i7
  have IV8:=Lib.hid i8
  clear x0 x1 x2 xl y0 y1 y2 y3 y4 y5 yl l0 l1 l2 ll l80 l81 l82 l8l lf0 lf1 lf2 g3 hb3 i7 i8 q4 hf8 hi8 hbw8
  have FQ0:=Lib.hid (keepq HV8.out NQ0.out)
  have FQ5:=Lib.hid (keepq HV8.out NQ5.out)
  have FQ7:=Lib.hid (keepq HV8.out NQ7.out)
  have FQ9:=Lib.hid (keepq HV8.out NQ9.out)
  obtain ⟨x0,x1,x2,xl⟩:=c3_of FQ0.out
  obtain ⟨e0,e1,e2,el⟩:=c3_of FQ5.out
  obtain ⟨h0,h1,h2,hl⟩:=c3_of FQ7.out
  obtain ⟨j0,j1,j2,jl⟩:=c3_of FQ9.out
  obtain ⟨m0,m1,m2,ml⟩:=c3_of QU8.out
  obtain ⟨q0,q1,q2,ql⟩:=c3_of QV8.out
  have HB8:=Lib.hid (keep_trans HB5.out HV8.out)
  have FI1:=Lib.hid (NI1.out.mono HV8.out)
  have FI2:=Lib.hid (NI2.out.mono HV8.out)
  have FI3:=Lib.hid (NI3.out.mono HV8.out)
  have M1:=Lib.hid (fun W a9 c9 (hb:Below V8.heap.size V8 W) (hi:IC W a9 z1 Y1)=>lmade_v R1 R1 b1 k1 d1 X1 er1 r r a9 z1 c9 Y1 0 W true hm1.out (FI1.out.mono hb) hi)
  have M2:=Lib.hid (fun W (hb:Below V8.heap.size V8 W)=>lmade_v R2 R2 b2 k2 d2 X2 er2 r r a7 z2 c7 Y2 t3 W true hm2.out (FI2.out.mono hb) (IU8.out.mono hb))
  have M3:=Lib.hid (fun W (hb:Below V8.heap.size V8 W)=>lmade_v R3 R3 b3 k3 d3 X3 er3 r r a8 z3 c8 Y3 s3 W true hm3.out (FI3.out.mono hb) (IV8.out.mono hb))
  refine wp_region_S (fun w'=>∃u,w'=over (V8) u) [22] [(0,0),(0,1),(0,2),(1,3),(1,4),(0,5),(0,6),(0,7),(0,8),(0,9),(1,10),(0,11),(0,12),(0,13),(0,14),(0,15),(0,16),(1,17),(0,18),(0,19),(1,20),(0,21),(2,22)] (by kernel_rfl) (by kernel_rfl) (by exact ⟨_,below_over (by repeat (first|assumption|exact Below.refl _ _|refine keep_drew ?_|refine keep_alloc ?_ _|refine keep_trans ?_ (by assumption)))⟩) ?_
  dsimp only[pickOps,nthOp]
  repeat (first|(refine wpS_skip rfl (fun K hK=>?_);go_big_quiet_op;refine hK _ ?_;clear hK K)|(refine wpS_quiet rfl rfl (fun K hK=>?_);go_big_quiet_op;refine hK _ ?_;clear hK K)|(refine wpS_loud ?_;go_wp2_with (first|(go_at_call 89;(with_reducible refine (HR1.out _ (keep_trans HB8.out (by (repeat (first|assumption|exact Below.refl _ _|refine keep_drew ?_|refine keep_alloc ?_ _|refine keep_trans ?_ (by assumption)))))).mono ?_);rintro _ o0 ⟨a9,c9,rfl,hf9,hi9,hbo0⟩;have hko0:Below V8.heap.size V8 o0:=(by (repeat (first|assumption|exact Below.refl _ _|refine keep_drew ?_|refine keep_alloc ?_ _|refine keep_trans ?_ (by assumption))));obtain ⟨xo00,xo01,xo02,xo0l⟩:=c3_of (keepq hko0 FQ0.out);obtain ⟨eo00,eo01,eo02,eo0l⟩:=c3_of (keepq hko0 FQ5.out);obtain ⟨ho00,ho01,ho02,ho0l⟩:=c3_of (keepq hko0 FQ7.out);obtain ⟨jo00,jo01,jo02,jo0l⟩:=c3_of (keepq hko0 FQ9.out);obtain ⟨mo00,mo01,mo02,mo0l⟩:=c3_of (keepq hko0 QU8.out);obtain ⟨qo00,qo01,qo02,qo0l⟩:=c3_of (keepq hko0 QV8.out))|(go_at_call 24;(with_reducible refine (M1.out _ _ _ (by (repeat (first|assumption|exact Below.refl _ _|refine keep_drew ?_|refine keep_alloc ?_ _|refine keep_trans ?_ (by assumption)))) hi9).mono ?_);rintro _ o1 ⟨rfl,hbo1⟩;have hko1:Below V8.heap.size V8 o1:=(by (repeat (first|assumption|exact Below.refl _ _|refine keep_drew ?_|refine keep_alloc ?_ _|refine keep_trans ?_ (by assumption))));obtain ⟨xo10,xo11,xo12,xo1l⟩:=c3_of (keepq hko1 FQ0.out);obtain ⟨eo10,eo11,eo12,eo1l⟩:=c3_of (keepq hko1 FQ5.out);obtain ⟨ho10,ho11,ho12,ho1l⟩:=c3_of (keepq hko1 FQ7.out);obtain ⟨jo10,jo11,jo12,jo1l⟩:=c3_of (keepq hko1 FQ9.out);obtain ⟨mo10,mo11,mo12,mo1l⟩:=c3_of (keepq hko1 QU8.out);obtain ⟨qo10,qo11,qo12,qo1l⟩:=c3_of (keepq hko1 QV8.out))|(go_at_call 24;(with_reducible refine (M2.out _ (by (repeat (first|assumption|exact Below.refl _ _|refine keep_drew ?_|refine keep_alloc ?_ _|refine keep_trans ?_ (by assumption))))).mono ?_);rintro _ o2 ⟨rfl,hbo2⟩;have hko2:Below V8.heap.size V8 o2:=(by (repeat (first|assumption|exact Below.refl _ _|refine keep_drew ?_|refine keep_alloc ?_ _|refine keep_trans ?_ (by assumption))));obtain ⟨xo20,xo21,xo22,xo2l⟩:=c3_of (keepq hko2 FQ0.out);obtain ⟨eo20,eo21,eo22,eo2l⟩:=c3_of (keepq hko2 FQ5.out);obtain ⟨ho20,ho21,ho22,ho2l⟩:=c3_of (keepq hko2 FQ7.out);obtain ⟨jo20,jo21,jo22,jo2l⟩:=c3_of (keepq hko2 FQ9.out);obtain ⟨mo20,mo21,mo22,mo2l⟩:=c3_of (keepq hko2 QU8.out);obtain ⟨qo20,qo21,qo22,qo2l⟩:=c3_of (keepq hko2 QV8.out))|(go_at_call 24;(with_reducible refine (M3.out _ (by (repeat (first|assumption|exact Below.refl _ _|refine keep_drew ?_|refine keep_alloc ?_ _|refine keep_trans ?_ (by assumption))))).mono ?_);rintro _ o3 ⟨rfl,hbo3⟩;have hko3:Below V8.heap.size V8 o3:=(by (repeat (first|assumption|exact Below.refl _ _|refine keep_drew ?_|refine keep_alloc ?_ _|refine keep_trans ?_ (by assumption))));obtain ⟨xo30,xo31,xo32,xo3l⟩:=c3_of (keepq hko3 FQ0.out);obtain ⟨eo30,eo31,eo32,eo3l⟩:=c3_of (keepq hko3 FQ5.out);obtain ⟨ho30,ho31,ho32,ho3l⟩:=c3_of (keepq hko3 FQ7.out);obtain ⟨jo30,jo31,jo32,jo3l⟩:=c3_of (keepq hko3 FQ9.out);obtain ⟨mo30,mo31,mo32,mo3l⟩:=c3_of (keepq hko3 QU8.out);obtain ⟨qo30,qo31,qo32,qo3l⟩:=c3_of (keepq hko3 QV8.out))|(go_at_call 20;refine (awake4_c _).mono ?_;rintro _ wz ⟨rfl,hbz⟩)|fail);refine ⟨?_,?_⟩;focus (exact ⟨_,below_over (by repeat (first|assumption|exact Below.refl _ _|refine keep_drew ?_|refine keep_alloc ?_ _|refine keep_trans ?_ (by assumption)))⟩)))
  refine wpS_late _ _ _ rfl ?_
  dsimp only[List.map]
  go_wp2_with (first|(go_at_call 89;(with_reducible refine (HR1.out _ (keep_trans HB8.out (by (repeat (first|assumption|exact Below.refl _ _|refine keep_drew ?_|refine keep_alloc ?_ _|refine keep_trans ?_ (by assumption)))))).mono ?_);rintro _ o0 ⟨a9,c9,rfl,hf9,hi9,hbo0⟩;have hko0:Below V8.heap.size V8 o0:=(by (repeat (first|assumption|exact Below.refl _ _|refine keep_drew ?_|refine keep_alloc ?_ _|refine keep_trans ?_ (by assumption))));obtain ⟨xo00,xo01,xo02,xo0l⟩:=c3_of (keepq hko0 FQ0.out);obtain ⟨eo00,eo01,eo02,eo0l⟩:=c3_of (keepq hko0 FQ5.out);obtain ⟨ho00,ho01,ho02,ho0l⟩:=c3_of (keepq hko0 FQ7.out);obtain ⟨jo00,jo01,jo02,jo0l⟩:=c3_of (keepq hko0 FQ9.out);obtain ⟨mo00,mo01,mo02,mo0l⟩:=c3_of (keepq hko0 QU8.out);obtain ⟨qo00,qo01,qo02,qo0l⟩:=c3_of (keepq hko0 QV8.out))|(go_at_call 24;(with_reducible refine (M1.out _ _ _ (by (repeat (first|assumption|exact Below.refl _ _|refine keep_drew ?_|refine keep_alloc ?_ _|refine keep_trans ?_ (by assumption)))) hi9).mono ?_);rintro _ o1 ⟨rfl,hbo1⟩;have hko1:Below V8.heap.size V8 o1:=(by (repeat (first|assumption|exact Below.refl _ _|refine keep_drew ?_|refine keep_alloc ?_ _|refine keep_trans ?_ (by assumption))));obtain ⟨xo10,xo11,xo12,xo1l⟩:=c3_of (keepq hko1 FQ0.out);obtain ⟨eo10,eo11,eo12,eo1l⟩:=c3_of (keepq hko1 FQ5.out);obtain ⟨ho10,ho11,ho12,ho1l⟩:=c3_of (keepq hko1 FQ7.out);obtain ⟨jo10,jo11,jo12,jo1l⟩:=c3_of (keepq hko1 FQ9.out);obtain ⟨mo10,mo11,mo12,mo1l⟩:=c3_of (keepq hko1 QU8.out);obtain ⟨qo10,qo11,qo12,qo1l⟩:=c3_of (keepq hko1 QV8.out))|(go_at_call 24;(with_reducible refine (M2.out _ (by (repeat (first|assumption|exact Below.refl _ _|refine keep_drew ?_|refine keep_alloc ?_ _|refine keep_trans ?_ (by assumption))))).mono ?_);rintro _ o2 ⟨rfl,hbo2⟩;have hko2:Below V8.heap.size V8 o2:=(by (repeat (first|assumption|exact Below.refl _ _|refine keep_drew ?_|refine keep_alloc ?_ _|refine keep_trans ?_ (by assumption))));obtain ⟨xo20,xo21,xo22,xo2l⟩:=c3_of (keepq hko2 FQ0.out);obtain ⟨eo20,eo21,eo22,eo2l⟩:=c3_of (keepq hko2 FQ5.out);obtain ⟨ho20,ho21,ho22,ho2l⟩:=c3_of (keepq hko2 FQ7.out);obtain ⟨jo20,jo21,jo22,jo2l⟩:=c3_of (keepq hko2 FQ9.out);obtain ⟨mo20,mo21,mo22,mo2l⟩:=c3_of (keepq hko2 QU8.out);obtain ⟨qo20,qo21,qo22,qo2l⟩:=c3_of (keepq hko2 QV8.out))|(go_at_call 24;(with_reducible refine (M3.out _ (by (repeat (first|assumption|exact Below.refl _ _|refine keep_drew ?_|refine keep_alloc ?_ _|refine keep_trans ?_ (by assumption))))).mono ?_);rintro _ o3 ⟨rfl,hbo3⟩;have hko3:Below V8.heap.size V8 o3:=(by (repeat (first|assumption|exact Below.refl _ _|refine keep_drew ?_|refine keep_alloc ?_ _|refine keep_trans ?_ (by assumption))));obtain ⟨xo30,xo31,xo32,xo3l⟩:=c3_of (keepq hko3 FQ0.out);obtain ⟨eo30,eo31,eo32,eo3l⟩:=c3_of (keepq hko3 FQ5.out);obtain ⟨ho30,ho31,ho32,ho3l⟩:=c3_of (keepq hko3 FQ7.out);obtain ⟨jo30,jo31,jo32,jo3l⟩:=c3_of (keepq hko3 FQ9.out);obtain ⟨mo30,mo31,mo32,mo3l⟩:=c3_of (keepq hko3 QU8.out);obtain ⟨qo30,qo31,qo32,qo3l⟩:=c3_of (keepq hko3 QV8.out))|(go_at_call 20;refine (awake4_c _).mono ?_;rintro _ wz ⟨rfl,hbz⟩)|fail)
  refine NoPanic.normal ?_
  go_wp2_with fail
  refine bodyPost_ret (v := .bool true) ?_ rfl ⟨rfl,keep_trans HB8.out (show Below V8.heap.size V8 wz by (repeat (first|assumption|exact Below.refl _ _|refine keep_drew ?_|refine keep_alloc ?_ _|refine keep_trans ?_ (by assumption))))⟩
  simp[results,Tryz.f17,go_sem]
theorem lforms_un (r C:Int) (a:Option Addr) (n c:Nat) (aR:Option Addr) (nR cR:Nat) (aK:Option Addr) (nK cK:Nat) (aM:Option Addr) (nM cM:Nat) (p0 p1 p2:Int) (w:World) (h0:¬300<n) (h1:¬40<nR) (h2:¬40<nK) (h3:¬40<nM) (R1 R2 R3:Int) (k1 k2 k3:Nat) (X1 X2 X3:List Int) (er1 er2 er3:Int) (t1 t2 t3 s3:Int) (S2:t1≠0→t2=t1) (S3:t2≠0→t3=t2) (z1:Nat) (Y1:List Int) (hm1:madeB R1 R1 X1 er1 r r Y1 0=true) (z2:Nat) (Y2:List Int) (h3:t3=0) (h4:s3≠0) (hm2:madeB R2 R2 X2 er2 r r Y2 t3=true) (hm3:madeB R3 R3 X3 er3 0 0 [] s3=true)
  (HA:∀W,Below w.heap.size w W→Calls Tryz.prog 22 #[.agg #[.int .i64 r,.int .i64 C,.slice a n c]] W fun e w'=>e = .returned (.int .i64 0)∧Below W.heap.size W w')
  (H1:∀W,Below w.heap.size w W→Calls Tryz.prog 83 #[.agg #[.int .i64 r,.int .i64 C,.slice a n c]] W fun e w'=>∃a2 c2,e = .returned (.tuple #[.agg #[.int .i64 R1,.int .i64 R1,.slice a2 k1 c2],.int .i64 er1])∧IC w' a2 k1 X1∧Below W.heap.size W w')
  (H2:∀W,Below w.heap.size w W→Calls Tryz.prog 84 #[.agg #[.int .i64 r,.int .i64 C,.slice a n c],.slice aR nR cR,.slice aK nK cK,.slice aM nM cM] W fun e w'=>∃a2 c2,e = .returned (.tuple #[.agg #[.int .i64 R2,.int .i64 R2,.slice a2 k2 c2],.int .i64 er2])∧IC w' a2 k2 X2∧Below W.heap.size W w')
  (H3:∀W,Below w.heap.size w W→Calls Tryz.prog 85 #[.agg #[.int .i64 r,.int .i64 C,.slice a n c],.agg #[.int .i64 p0,.int .i64 p1,.int .i64 p2]] W fun e w'=>∃a2 c2,e = .returned (.tuple #[.agg #[.int .i64 R3,.int .i64 R3,.slice a2 k3 c2],.int .i64 er3])∧IC w' a2 k3 X3∧Below W.heap.size W w')
  (P0:∀W,Below w.heap.size w W→Calls Tryz.prog 86 #[.slice aR nR cR,.int .i64 r] W fun e w'=>e = .returned (.int .i64 t1)∧Below W.heap.size W w')
  (P1:t1=0→∀W,Below w.heap.size w W→Calls Tryz.prog 86 #[.slice aK nK cK,.int .i64 r] W fun e w'=>e = .returned (.int .i64 t2)∧Below W.heap.size W w')
  (P2:t2=0→∀W,Below w.heap.size w W→Calls Tryz.prog 86 #[.slice aM nM cM,.int .i64 r] W fun e w'=>e = .returned (.int .i64 t3)∧Below W.heap.size W w')
  (P3:∀W b,IC W (some ⟨b,3,none⟩) 3 [p0,p1,p2]→Calls Tryz.prog 86 #[.slice (some ⟨b,3,none⟩) 3 3,.int .i64 3] W fun e w'=>e = .returned (.int .i64 s3)∧Below W.heap.size W w')
  (HR1:∀W,Below w.heap.size w W→Calls Tryz.prog 89 #[.agg #[.int .i64 r,.int .i64 C,.slice a n c]] W fun e w'=>∃a2 c2,e = .returned (.agg #[.int .i64 r,.int .i64 r,.slice a2 z1 c2])∧(∀b2 o2,a2=some ⟨b2,o2,none⟩→W.heap.size≤b2)∧IC w' a2 z1 Y1∧Below W.heap.size W w')
  (HR2:∀W,Below w.heap.size w W→Calls Tryz.prog 87 #[.agg #[.int .i64 r,.int .i64 C,.slice a n c],.slice aR nR cR,.slice aK nK cK,.slice aM nM cM] W fun e w'=>∃a2 c2,e = .returned (.agg #[.int .i64 r,.int .i64 r,.slice a2 z2 c2])∧(∀b2 o2,a2=some ⟨b2,o2,none⟩→W.heap.size≤b2)∧IC w' a2 z2 Y2∧Below W.heap.size W w')
  : Calls Tryz.prog 17 #[.agg #[.int .i64 r,.int .i64 C,.slice a n c],.agg #[.slice aR nR cR,.slice aK nK cK,.slice aM nM cM,.int .i64 p0,.int .i64 p1,.int .i64 p2]] w fun e w'=>e = .returned (.bool true)∧Below w.heap.size w w':=by
 have hg0:decide ((300:Int)<(n:Int))=false:=decide_eq_false (by omega)
 have hg1:decide ((40:Int)<(nR:Int))=false:=decide_eq_false (by omega)
 have hg2:decide ((40:Int)<(nK:Int))=false:=decide_eq_false (by omega)
 have hg3:decide ((40:Int)<(nM:Int))=false:=decide_eq_false (by omega)
 have e3:(t3==0)=true:=by simpa using h3
 have e4:(s3==0)=false:=by simpa using h4
 clear h3 h4
 have HA:=Lib.hid HA
 have H1:=Lib.hid H1
 have H2:=Lib.hid H2
 have H3:=Lib.hid H3
 have P0:=Lib.hid P0
 have P1:=Lib.hid P1
 have P2:=Lib.hid P2
 have P3:=Lib.hid P3
 have HR1:=Lib.hid HR1
 have hm1:=Lib.hid hm1
 have hm2:=Lib.hid hm2
 have hm3:=Lib.hid hm3
 have S2:=Lib.hid S2
 have S3:=Lib.hid S3
 have e3:=Lib.hid e3
 have e4:=Lib.hid e4
 have HR2:=Lib.hid HR2
 go_enter Tryz.func17,Tryz.ntmps17
 go_upto_region 1 with fail
 have fsz:((w.alloc (.cells #[.int .i64 r,.int .i64 C,.slice a n c] 24)).alloc (.cells #[.slice aR nR cR,.slice aK nK cK,.slice aM nM cM,.int .i64 p0,.int .i64 p1,.int .i64 p2] 98)).heap.size=w.heap.size+2:=by simp only[World.size_alloc] <;> omega
 have fB:Below w.heap.size w ((w.alloc (.cells #[.int .i64 r,.int .i64 C,.slice a n c] 24)).alloc (.cells #[.slice aR nR cR,.slice aK nK cK,.slice aM nM cM,.int .i64 p0,.int .i64 p1,.int .i64 p2] 98)):=((Below.refl _ _).alloc (Nat.le_refl _) _).alloc (by simp only[World.size_alloc];omega) _
 have fq0:((w.alloc (.cells #[.int .i64 r,.int .i64 C,.slice a n c] 24)).alloc (.cells #[.slice aR nR cR,.slice aK nK cK,.slice aM nM cM,.int .i64 p0,.int .i64 p1,.int .i64 p2] 98)).heap[w.heap.size]?=some (.cells #[.int .i64 r,.int .i64 C,.slice a n c] 24 (0,0)):=by have h:=World.alloc_heap_new w (.cells #[.int .i64 r,.int .i64 C,.slice a n c] 24);exact (Below.heap_alloc _ _ _ (by simp only[World.size_alloc];omega)).trans (h)
 have fq1:((w.alloc (.cells #[.int .i64 r,.int .i64 C,.slice a n c] 24)).alloc (.cells #[.slice aR nR cR,.slice aK nK cK,.slice aM nM cM,.int .i64 p0,.int .i64 p1,.int .i64 p2] 98)).heap[w.heap.size+1]?=some (.cells #[.slice aR nR cR,.slice aK nK cK,.slice aM nM cM,.int .i64 p0,.int .i64 p1,.int .i64 p2] 98 (0,0)):=by have h:=World.alloc_heap_new (w.alloc (.cells #[.int .i64 r,.int .i64 C,.slice a n c] 24)) (.cells #[.slice aR nR cR,.slice aK nK cK,.slice aM nM cM,.int .i64 p0,.int .i64 p1,.int .i64 p2] 98);simp only[World.size_alloc] at h;exact h
 generalize ((w.alloc (.cells #[.int .i64 r,.int .i64 C,.slice a n c] 24)).alloc (.cells #[.slice aR nR cR,.slice aK nK cK,.slice aM nM cM,.int .i64 p0,.int .i64 p1,.int .i64 p2] 98))=W0 at fsz fB fq0 fq1 ⊢
 have Q0:=Lib.hid fq0
 have Q1:=Lib.hid fq1
 have FB:=Lib.hid fB
 obtain ⟨x0,x1,x2,xl⟩:=c3_of fq0
 obtain ⟨y0,y1,y2,y3,y4,y5,yl⟩:=c6_of fq1
 clear fq0 fq1 fsz fB
 go_upto_region 4 with (first|(go_at_call 19;(with_reducible refine (lgreat_c r C a n c 300 _).mono ?_);rintro _ w1 ⟨rfl,hbw1⟩;have hkw1:Below W0.heap.size W0 w1:=(by (repeat (first|assumption|exact Below.refl _ _|refine keep_drew ?_|refine keep_alloc ?_ _|refine keep_trans ?_ (by assumption))));obtain ⟨xw10,xw11,xw12,xw1l⟩:=c3_of (keepq hkw1 Q0.out);obtain ⟨yw10,yw11,yw12,yw13,yw14,yw15,yw1l⟩:=c6_of (keepq hkw1 Q1.out))|(go_at_call 83;(with_reducible refine (H1.out _ (keep_trans FB.out (by (repeat (first|assumption|exact Below.refl _ _|refine keep_drew ?_|refine keep_alloc ?_ _|refine keep_trans ?_ (by assumption)))))).mono ?_);rintro _ u0 ⟨b1,d1,rfl,hi0,hbu0⟩;have hku0:Below W0.heap.size W0 u0:=(by (repeat (first|assumption|exact Below.refl _ _|refine keep_drew ?_|refine keep_alloc ?_ _|refine keep_trans ?_ (by assumption)))))|fail)
 have gsz:(u0.alloc (.cells #[.int .i64 R1,.int .i64 R1,.slice b1 k1 d1] 24)).heap.size=u0.heap.size+1:=by simp only[World.size_alloc]
 have gB:Below u0.heap.size u0 (u0.alloc (.cells #[.int .i64 R1,.int .i64 R1,.slice b1 k1 d1] 24)):=(Below.refl _ _).alloc (Nat.le_refl _) _
 have gq0:(u0.alloc (.cells #[.int .i64 R1,.int .i64 R1,.slice b1 k1 d1] 24)).heap[u0.heap.size]?=some (.cells #[.int .i64 R1,.int .i64 R1,.slice b1 k1 d1] 24 (0,0)):=by have h:=World.alloc_heap_new u0 (.cells #[.int .i64 R1,.int .i64 R1,.slice b1 k1 d1] 24);exact h
 generalize (u0.alloc (.cells #[.int .i64 R1,.int .i64 R1,.slice b1 k1 d1] 24))=V1 at gsz gB gq0 ⊢
 have hkk:=keep_trans hku0 gB
 have NQ0:=Lib.hid (keepq hkk Q0.out)
 have NQ1:=Lib.hid (keepq hkk Q1.out)
 have NB:=Lib.hid (keep_trans FB.out hkk)
 have NQ5:=Lib.hid gq0
 have NI1:=Lib.hid (hi0.mono gB)
 clear gsz gq0 gB hkk hku0 hbu0 hi0 x0 x1 x2 xl y0 y1 y2 y3 y4 y5 yl FB Q1 Q0  xw10 xw11 xw12 xw1l yw10 yw11 yw12 yw13 yw14 yw15 yw1l hkw1 hbw1
 have Q0:=NQ0;clear NQ0
 have Q5:=NQ5;clear NQ5
 have Q1:=NQ1;clear NQ1
 have I1:=NI1;clear NI1
 have HB1:=NB;clear NB
 obtain ⟨x0,x1,x2,xl⟩:=c3_of Q0.out
 obtain ⟨e0,e1,e2,el⟩:=c3_of Q5.out
 obtain ⟨y0,y1,y2,y3,y4,y5,yl⟩:=c6_of Q1.out
 go_upto_region 5 with (first|(go_at_call 84;(with_reducible refine (H2.out _ (keep_trans HB1.out (by (repeat (first|assumption|exact Below.refl _ _|refine keep_drew ?_|refine keep_alloc ?_ _|refine keep_trans ?_ (by assumption)))))).mono ?_);rintro _ u1 ⟨b2,d2,rfl,hi1,hbu1⟩;have hku1:Below V1.heap.size V1 u1:=(by (repeat (first|assumption|exact Below.refl _ _|refine keep_drew ?_|refine keep_alloc ?_ _|refine keep_trans ?_ (by assumption)))))|fail)
 have gsz:(u1.alloc (.cells #[.int .i64 R2,.int .i64 R2,.slice b2 k2 d2] 24)).heap.size=u1.heap.size+1:=by simp only[World.size_alloc]
 have gB:Below u1.heap.size u1 (u1.alloc (.cells #[.int .i64 R2,.int .i64 R2,.slice b2 k2 d2] 24)):=(Below.refl _ _).alloc (Nat.le_refl _) _
 have gq0:(u1.alloc (.cells #[.int .i64 R2,.int .i64 R2,.slice b2 k2 d2] 24)).heap[u1.heap.size]?=some (.cells #[.int .i64 R2,.int .i64 R2,.slice b2 k2 d2] 24 (0,0)):=by have h:=World.alloc_heap_new u1 (.cells #[.int .i64 R2,.int .i64 R2,.slice b2 k2 d2] 24);exact h
 generalize (u1.alloc (.cells #[.int .i64 R2,.int .i64 R2,.slice b2 k2 d2] 24))=V2 at gsz gB gq0 ⊢
 have hkk:=keep_trans hku1 gB
 have NQ0:=Lib.hid (keepq hkk Q0.out)
 have NQ5:=Lib.hid (keepq hkk Q5.out)
 have NQ1:=Lib.hid (keepq hkk Q1.out)
 have NB:=Lib.hid (keep_trans HB1.out hkk)
 have NI1:=Lib.hid (I1.out.mono hkk)
 have NQ7:=Lib.hid gq0
 have NI2:=Lib.hid (hi1.mono gB)
 clear gsz gq0 gB hkk hku1 hbu1 hi1 x0 x1 x2 xl e0 e1 e2 el y0 y1 y2 y3 y4 y5 yl HB1 Q1 Q0 Q5 I1
 have Q0:=NQ0;clear NQ0
 have Q5:=NQ5;clear NQ5
 have Q7:=NQ7;clear NQ7
 have Q1:=NQ1;clear NQ1
 have I1:=NI1;clear NI1
 have I2:=NI2;clear NI2
 have HB2:=NB;clear NB
 obtain ⟨x0,x1,x2,xl⟩:=c3_of Q0.out
 obtain ⟨e0,e1,e2,el⟩:=c3_of Q5.out
 obtain ⟨h0,h1,h2,hl⟩:=c3_of Q7.out
 obtain ⟨y0,y1,y2,y3,y4,y5,yl⟩:=c6_of Q1.out
 go_upto_region 6 with (first|(go_at_call 85;(with_reducible refine (H3.out _ (keep_trans HB2.out (by (repeat (first|assumption|exact Below.refl _ _|refine keep_drew ?_|refine keep_alloc ?_ _|refine keep_trans ?_ (by assumption)))))).mono ?_);rintro _ u2 ⟨b3,d3,rfl,hi2,hbu2⟩;have hku2:Below V2.heap.size V2 u2:=(by (repeat (first|assumption|exact Below.refl _ _|refine keep_drew ?_|refine keep_alloc ?_ _|refine keep_trans ?_ (by assumption)))))|fail)
 have gsz:(u2.alloc (.cells #[.int .i64 R3,.int .i64 R3,.slice b3 k3 d3] 24)).heap.size=u2.heap.size+1:=by simp only[World.size_alloc]
 have gB:Below u2.heap.size u2 (u2.alloc (.cells #[.int .i64 R3,.int .i64 R3,.slice b3 k3 d3] 24)):=(Below.refl _ _).alloc (Nat.le_refl _) _
 have gq0:(u2.alloc (.cells #[.int .i64 R3,.int .i64 R3,.slice b3 k3 d3] 24)).heap[u2.heap.size]?=some (.cells #[.int .i64 R3,.int .i64 R3,.slice b3 k3 d3] 24 (0,0)):=by have h:=World.alloc_heap_new u2 (.cells #[.int .i64 R3,.int .i64 R3,.slice b3 k3 d3] 24);exact h
 generalize (u2.alloc (.cells #[.int .i64 R3,.int .i64 R3,.slice b3 k3 d3] 24))=V3 at gsz gB gq0 ⊢
 have hkk:=keep_trans hku2 gB
 have NQ0:=Lib.hid (keepq hkk Q0.out)
 have NQ5:=Lib.hid (keepq hkk Q5.out)
 have NQ7:=Lib.hid (keepq hkk Q7.out)
 have NQ1:=Lib.hid (keepq hkk Q1.out)
 have NB:=Lib.hid (keep_trans HB2.out hkk)
 have NI1:=Lib.hid (I1.out.mono hkk)
 have NI2:=Lib.hid (I2.out.mono hkk)
 have NQ9:=Lib.hid gq0
 have NI3:=Lib.hid (hi2.mono gB)
 clear gsz gq0 gB hkk hku2 hbu2 hi2 x0 x1 x2 xl e0 e1 e2 el h0 h1 h2 hl y0 y1 y2 y3 y4 y5 yl HB2 Q1 Q0 Q5 Q7 I1 I2
 have Q0:=NQ0;clear NQ0
 have Q5:=NQ5;clear NQ5
 have Q7:=NQ7;clear NQ7
 have Q9:=NQ9;clear NQ9
 have Q1:=NQ1;clear NQ1
 have I1:=NI1;clear NI1
 have I2:=NI2;clear NI2
 have I3:=NI3;clear NI3
 have HB3:=NB;clear NB
 obtain ⟨x0,x1,x2,xl⟩:=c3_of Q0.out
 obtain ⟨e0,e1,e2,el⟩:=c3_of Q5.out
 obtain ⟨h0,h1,h2,hl⟩:=c3_of Q7.out
 obtain ⟨j0,j1,j2,jl⟩:=c3_of Q9.out
 obtain ⟨y0,y1,y2,y3,y4,y5,yl⟩:=c6_of Q1.out
 go_upto_region 11 with (first|(go_at_call 22;(with_reducible refine (HA.out _ (keep_trans HB3.out (by (repeat (first|assumption|exact Below.refl _ _|refine keep_drew ?_|refine keep_alloc ?_ _|refine keep_trans ?_ (by assumption)))))).mono ?_);rintro _ v0 ⟨rfl,hbv0⟩;have hkv0:Below V3.heap.size V3 v0:=(by (repeat (first|assumption|exact Below.refl _ _|refine keep_drew ?_|refine keep_alloc ?_ _|refine keep_trans ?_ (by assumption))));obtain ⟨xv00,xv01,xv02,xv0l⟩:=c3_of (keepq hkv0 Q0.out);obtain ⟨ev00,ev01,ev02,ev0l⟩:=c3_of (keepq hkv0 Q5.out);obtain ⟨hv00,hv01,hv02,hv0l⟩:=c3_of (keepq hkv0 Q7.out);obtain ⟨jv00,jv01,jv02,jv0l⟩:=c3_of (keepq hkv0 Q9.out);obtain ⟨yv00,yv01,yv02,yv03,yv04,yv05,yv0l⟩:=c6_of (keepq hkv0 Q1.out))|fail)
 have hq9:=World.alloc_heap_new v0 (.cells #[.slice aR nR cR,.slice aK nK cK,.slice aM nM cM] 22)
 have hb9:Below V3.heap.size V3 (v0.alloc (.cells #[.slice aR nR cR,.slice aK nK cK,.slice aM nM cM] 22)):=keep_alloc hkv0 _
 have hk9:v0.heap.size<(v0.alloc (.cells #[.slice aR nR cR,.slice aK nK cK,.slice aM nM cM] 22)).heap.size:=q_lt hq9
 generalize (v0.alloc (.cells #[.slice aR nR cR,.slice aK nK cK,.slice aM nM cM] 22))=V4 at hq9 hb9 hk9 ⊢
 have Q9a:=Lib.hid hq9
 have HB4:=Lib.hid (keep_trans HB3.out hb9)
 have HV4:=Lib.hid hb9
 clear x0 x1 x2 xl e0 e1 e2 el h0 h1 h2 hl j0 j1 j2 jl y0 y1 y2 y3 y4 y5 yl hbv0 hkv0 xv00 xv01 xv02 xv0l ev00 ev01 ev02 ev0l hv00 hv01 hv02 hv0l jv00 jv01 jv02 jv0l yv00 yv01 yv02 yv03 yv04 yv05 yv0l hq9 hb9
 go_loopw [12,14,96] (fun s12 _ s96 wr=>∃(k:Nat) (t:Int),k≤3∧s96 = .int .i64 (k:Int)∧s12 = .int .i64 t∧(k=0→t=0)∧(k=1→t=t1)∧(k=2→t=t2)∧(k=3→t=t3)∧Hid (Below V4.heap.size V4 wr)) (fun _ _ s96 _=>3 - (intOf s96).toNat)
 case atStart=>exact ⟨0,0,by omega,rfl,rfl,fun _=>rfl,fun h=>absurd h (by decide),fun h=>absurd h (by decide),fun h=>absurd h (by decide),Below.refl _ _⟩
 case round =>
  obtain ⟨k,t,hk,rfl,rfl,T0,T1,T2,T3,hbr⟩:=hrel
  have hq:=keepq hbr.out Q9a.out
  have hqz:=q_lt hq
  have hb4r:=keep_trans HV4.out hbr.out
  have N0:=Lib.hid (keepq hb4r Q0.out)
  obtain ⟨x0,x1,x2,xl⟩:=c3_of N0.out
  clear hb4r
  by_cases ek0:k=0
  ·subst ek0
   have et:=(T0 rfl).symm
   subst et
   clear T0 T1 T2 T3
   have g0:=q_cell hq 0
   go_wp2_with (first|(go_at_call 86;(with_reducible refine (P0.out _ (keep_trans (keep_trans HB4.out hbr.out) (by (repeat (first|assumption|exact Below.refl _ _|refine keep_drew ?_|refine keep_alloc ?_ _|refine keep_trans ?_ (by assumption)))))).mono ?_);rintro _ w1 ⟨rfl,hbw1⟩)|fail)
   go_roundw
   case rel=>exact ⟨1,_,by omega,by go_num,rfl,fun h=>absurd h (by decide),fun _=>rfl,fun h=>absurd h (by decide),fun h=>absurd h (by decide),keep_trans hbr.out (show Below wr.heap.size wr w1 by (repeat (first|assumption|exact Below.refl _ _|refine keep_drew ?_|refine keep_alloc ?_ _|refine keep_trans ?_ (by assumption))))⟩
   case measure=>simp[intOf]
  by_cases ek1:k=1
  ·subst ek1
   have et:=(T1 rfl).symm
   subst et
   clear T0 T1 T2 T3
   have g0:=q_cell hq 1
   by_cases hz:t1=0
   ·have ez:(t1==0)=true:=by simpa using hz
    have hz:=Lib.hid hz
    go_wp2_with (first|(go_at_call 86;(with_reducible refine (P1.out hz.out _ (keep_trans (keep_trans HB4.out hbr.out) (by (repeat (first|assumption|exact Below.refl _ _|refine keep_drew ?_|refine keep_alloc ?_ _|refine keep_trans ?_ (by assumption)))))).mono ?_);rintro _ w1 ⟨rfl,hbw1⟩)|fail)
    go_roundw
    case rel=>exact ⟨2,_,by omega,by go_num,rfl,fun h=>absurd h (by decide),fun h=>absurd h (by decide),fun _=>rfl,fun h=>absurd h (by decide),keep_trans hbr.out (show Below wr.heap.size wr w1 by (repeat (first|assumption|exact Below.refl _ _|refine keep_drew ?_|refine keep_alloc ?_ _|refine keep_trans ?_ (by assumption))))⟩
    case measure=>simp[intOf]
   ·have ez:(t1==0)=false:=by simpa using hz
    have hz:=Lib.hid hz
    go_wp2_with fail
    go_roundw
    case rel=>exact ⟨2,_,by omega,by go_num,rfl,fun h=>absurd h (by decide),fun h=>absurd h (by decide),fun _=>(S2.out hz.out).symm,fun h=>absurd h (by decide),hbr.out⟩
    case measure=>simp[intOf]
  by_cases ek2:k=2
  ·subst ek2
   have et:=(T2 rfl).symm
   subst et
   clear T0 T1 T2 T3
   have g0:=q_cell hq 2
   by_cases hz:t2=0
   ·have ez:(t2==0)=true:=by simpa using hz
    have hz:=Lib.hid hz
    go_wp2_with (first|(go_at_call 86;(with_reducible refine (P2.out hz.out _ (keep_trans (keep_trans HB4.out hbr.out) (by (repeat (first|assumption|exact Below.refl _ _|refine keep_drew ?_|refine keep_alloc ?_ _|refine keep_trans ?_ (by assumption)))))).mono ?_);rintro _ w1 ⟨rfl,hbw1⟩)|fail)
    go_roundw
    case rel=>exact ⟨3,_,by omega,by go_num,rfl,fun h=>absurd h (by decide),fun h=>absurd h (by decide),fun h=>absurd h (by decide),fun _=>rfl,keep_trans hbr.out (show Below wr.heap.size wr w1 by (repeat (first|assumption|exact Below.refl _ _|refine keep_drew ?_|refine keep_alloc ?_ _|refine keep_trans ?_ (by assumption))))⟩
    case measure=>simp[intOf]
   ·have ez:(t2==0)=false:=by simpa using hz
    have hz:=Lib.hid hz
    go_wp2_with fail
    go_roundw
    case rel=>exact ⟨3,_,by omega,by go_num,rfl,fun h=>absurd h (by decide),fun h=>absurd h (by decide),fun h=>absurd h (by decide),fun _=>(S3.out hz.out).symm,hbr.out⟩
    case measure=>simp[intOf]
  have ek:k=3:=by omega
  subst ek
  have et:=(T3 rfl).symm
  subst et
  clear T0 T1 T2 T3
  have HV5:=Lib.hid (keep_trans HV4.out hbr.out)
  have HB5:=Lib.hid (keep_trans HB3.out HV5.out)
  clear hq hqz hbr x0 x1 x2 xl N0 hk ek0 ek1 ek2
  have NQ0:=Lib.hid (keepq HV5.out Q0.out)
  have NQ5:=Lib.hid (keepq HV5.out Q5.out)
  have NQ7:=Lib.hid (keepq HV5.out Q7.out)
  have NQ9:=Lib.hid (keepq HV5.out Q9.out)
  have NQ1:=Lib.hid (keepq HV5.out Q1.out)
  have NI1:=Lib.hid (I1.out.mono HV5.out)
  have NI2:=Lib.hid (I2.out.mono HV5.out)
  have NI3:=Lib.hid (I3.out.mono HV5.out)
  obtain ⟨x0,x1,x2,xl⟩:=c3_of NQ0.out
  obtain ⟨e0,e1,e2,el⟩:=c3_of NQ5.out
  obtain ⟨h0,h1,h2,hl⟩:=c3_of NQ7.out
  obtain ⟨j0,j1,j2,jl⟩:=c3_of NQ9.out
  obtain ⟨y0,y1,y2,y3,y4,y5,yl⟩:=c6_of NQ1.out
  go_upto_region 18 with (first|(go_at_call 86;(with_reducible refine (P3.out _ _ ((ic_box6 NQ1.out).mono (by (repeat (first|assumption|exact Below.refl _ _|refine keep_drew ?_|refine keep_alloc ?_ _|refine keep_trans ?_ (by assumption)))))).mono ?_);rintro _ s0 ⟨rfl,hbs0⟩;have hks0:Below wr.heap.size wr s0:=(by (repeat (first|assumption|exact Below.refl _ _|refine keep_drew ?_|refine keep_alloc ?_ _|refine keep_trans ?_ (by assumption)))))|fail)
  have gsz:((s0.alloc (.cells #[.int .i64 0,.int .i64 0,.slice none 0 0] 24)).alloc (.cells #[.int .i64 0,.int .i64 0,.slice none 0 0] 24)).heap.size=s0.heap.size+2:=by simp only[World.size_alloc] <;> omega
  have gB:Below s0.heap.size s0 ((s0.alloc (.cells #[.int .i64 0,.int .i64 0,.slice none 0 0] 24)).alloc (.cells #[.int .i64 0,.int .i64 0,.slice none 0 0] 24)):=((Below.refl _ _).alloc (Nat.le_refl _) _).alloc (by simp only[World.size_alloc];omega) _
  have gq0:((s0.alloc (.cells #[.int .i64 0,.int .i64 0,.slice none 0 0] 24)).alloc (.cells #[.int .i64 0,.int .i64 0,.slice none 0 0] 24)).heap[s0.heap.size]?=some (.cells #[.int .i64 0,.int .i64 0,.slice none 0 0] 24 (0,0)):=by have h:=World.alloc_heap_new s0 (.cells #[.int .i64 0,.int .i64 0,.slice none 0 0] 24);exact (Below.heap_alloc _ _ _ (by simp only[World.size_alloc];omega)).trans (h)
  have gq1:((s0.alloc (.cells #[.int .i64 0,.int .i64 0,.slice none 0 0] 24)).alloc (.cells #[.int .i64 0,.int .i64 0,.slice none 0 0] 24)).heap[s0.heap.size+1]?=some (.cells #[.int .i64 0,.int .i64 0,.slice none 0 0] 24 (0,0)):=by have h:=World.alloc_heap_new (s0.alloc (.cells #[.int .i64 0,.int .i64 0,.slice none 0 0] 24)) (.cells #[.int .i64 0,.int .i64 0,.slice none 0 0] 24);simp only[World.size_alloc] at h;exact h
  generalize ((s0.alloc (.cells #[.int .i64 0,.int .i64 0,.slice none 0 0] 24)).alloc (.cells #[.int .i64 0,.int .i64 0,.slice none 0 0] 24))=V6 at gsz gB gq0 gq1 ⊢
  have HV6:=Lib.hid (keep_trans hks0 gB)
  have HS6:Hid (wr.heap.size≤s0.heap.size):=hks0.size
  have HS7:Hid (V6.heap.size=s0.heap.size+2):=gsz
  have QU:=Lib.hid gq0
  have QV:=Lib.hid gq1
  clear x0 x1 x2 xl e0 e1 e2 el h0 h1 h2 hl j0 j1 j2 jl y0 y1 y2 y3 y4 y5 yl gsz gq0 gq1 gB hbs0 hks0
  obtain ⟨x0,x1,x2,xl⟩:=c3_of (Lib.hid (keepq HV6.out NQ0.out)).out
  obtain ⟨y0,y1,y2,y3,y4,y5,yl⟩:=c6_of (Lib.hid (keepq HV6.out NQ1.out)).out
  obtain ⟨l0,l1,l2,ll⟩:=c3_of QU.out
  go_upto_region 20 with (first|(go_at_call 87;refine (HR2.out _ (keep_trans HB5.out HV6.out)).mono ?_;rintro _ w7 ⟨a7,c7,rfl,hf7,hi7,hbw7⟩;obtain ⟨l70,l71,l72,l7l⟩:=c3_of (keepq hbw7 QU.out);obtain ⟨lf0,lf1,lf2⟩:=f3_of (keepq hbw7 QU.out))|fail)
  have g3:=st3_q (x0 := .int .i64 r) (x1 := .int .i64 r) (x2 := .slice a7 z2 c7) (keepq hbw7 QU.out)
  have hb3:=st3_below (x0 := .int .i64 r) (x1 := .int .i64 r) (x2 := .slice a7 z2 c7) (b:=s0.heap.size) (keep_trans HV6.out hbw7) HS6.out
  have i7:=hi7.st3 (x0 := .int .i64 r) (x1 := .int .i64 r) (x2 := .slice a7 z2 c7) (b:=s0.heap.size) (fun b o e=>by have:=hf7 b o e;have:=HS7.out;omega)
  have q4:=q_other (i:=2) (q_other (i:=1) (q_other (i:=0) (keepq hbw7 QV.out) (show s0.heap.size+1≠s0.heap.size by omega) (.int .i64 r)) (show s0.heap.size+1≠s0.heap.size by omega) (.int .i64 r)) (show s0.heap.size+1≠s0.heap.size by omega) (.slice a7 z2 c7)
  have hn7:∀b2 off,a7=some ⟨b2,off,none⟩→b2≠s0.heap.size+1:=fun b o e=>by have:=hf7 b o e;have:=HS7.out;omega
  have hz7:s0.heap.size+2≤(((w7.setCell ⟨s0.heap.size,0,none⟩ (.int .i64 r)).setCell ⟨s0.heap.size,1,none⟩ (.int .i64 r)).setCell ⟨s0.heap.size,2,none⟩ (.slice a7 z2 c7)).heap.size:=by have h1:=hbw7.size;have h2:=HS7.out;simp only[World.size_setCell];omega
  generalize (((w7.setCell ⟨s0.heap.size,0,none⟩ (.int .i64 r)).setCell ⟨s0.heap.size,1,none⟩ (.int .i64 r)).setCell ⟨s0.heap.size,2,none⟩ (.slice a7 z2 c7))=V7 at i7 q4 g3 hb3 hz7 ⊢
  have HV7:=Lib.hid hb3
  have QU7:=Lib.hid g3
  have QV7:=Lib.hid q4
  have IU7:=Lib.hid i7
  have HN7:=Lib.hid hn7
  have HZ7:=Lib.hid hz7
  clear x0 x1 x2 xl y0 y1 y2 y3 y4 y5 yl l0 l1 l2 ll l70 l71 l72 l7l lf0 lf1 lf2 g3 hb3 i7 q4 hn7 hz7 hf7 hi7 hbw7
  go_upto_region 22 with fail
  have HV8:=HV7
  have QU8:=QU7
  have QV8:=QV7
  have IU8:=IU7
  have IV8:Hid (IC V7 none 0 []):=⟨⟨rfl,by omega⟩,fun k hk=>absurd hk (by omega)⟩
  have FQ0:=Lib.hid (keepq HV8.out NQ0.out)
  have FQ5:=Lib.hid (keepq HV8.out NQ5.out)
  have FQ7:=Lib.hid (keepq HV8.out NQ7.out)
  have FQ9:=Lib.hid (keepq HV8.out NQ9.out)
  obtain ⟨x0,x1,x2,xl⟩:=c3_of FQ0.out
  obtain ⟨e0,e1,e2,el⟩:=c3_of FQ5.out
  obtain ⟨h0,h1,h2,hl⟩:=c3_of FQ7.out
  obtain ⟨j0,j1,j2,jl⟩:=c3_of FQ9.out
  obtain ⟨m0,m1,m2,ml⟩:=c3_of QU8.out
  obtain ⟨q0,q1,q2,ql⟩:=c3_of QV8.out
  have HB8:=Lib.hid (keep_trans HB5.out HV8.out)
  have FI1:=Lib.hid (NI1.out.mono HV8.out)
  have FI2:=Lib.hid (NI2.out.mono HV8.out)
  have FI3:=Lib.hid (NI3.out.mono HV8.out)
  have M1:=Lib.hid (fun W a9 c9 (hb:Below V7.heap.size V7 W) (hi:IC W a9 z1 Y1)=>lmade_v R1 R1 b1 k1 d1 X1 er1 r r a9 z1 c9 Y1 0 W true hm1.out (FI1.out.mono hb) hi)
  have M2:=Lib.hid (fun W (hb:Below V7.heap.size V7 W)=>lmade_v R2 R2 b2 k2 d2 X2 er2 r r a7 z2 c7 Y2 t3 W true hm2.out (FI2.out.mono hb) (IU8.out.mono hb))
  have M3:=Lib.hid (fun W (hb:Below V7.heap.size V7 W)=>lmade_v R3 R3 b3 k3 d3 X3 er3 0 0 none 0 0 [] s3 W true hm3.out (FI3.out.mono hb) (IV8.out.mono hb))
  refine wp_region_S (fun w'=>∃u,w'=over (V7) u) [22] [(0,0),(0,1),(0,2),(1,3),(1,4),(0,5),(0,6),(0,7),(0,8),(0,9),(1,10),(0,11),(0,12),(0,13),(0,14),(0,15),(0,16),(1,17),(0,18),(0,19),(1,20),(0,21),(2,22)] (by kernel_rfl) (by kernel_rfl) (by exact ⟨_,below_over (by repeat (first|assumption|exact Below.refl _ _|refine keep_drew ?_|refine keep_alloc ?_ _|refine keep_trans ?_ (by assumption)))⟩) ?_
  dsimp only[pickOps,nthOp]
  repeat (first|(refine wpS_skip rfl (fun K hK=>?_);go_big_quiet_op;refine hK _ ?_;clear hK K)|(refine wpS_quiet rfl rfl (fun K hK=>?_);go_big_quiet_op;refine hK _ ?_;clear hK K)|(refine wpS_loud ?_;go_wp2_with (first|(go_at_call 89;(with_reducible refine (HR1.out _ (keep_trans HB8.out (by (repeat (first|assumption|exact Below.refl _ _|refine keep_drew ?_|refine keep_alloc ?_ _|refine keep_trans ?_ (by assumption)))))).mono ?_);rintro _ o0 ⟨a9,c9,rfl,hf9,hi9,hbo0⟩;have hko0:Below V7.heap.size V7 o0:=(by (repeat (first|assumption|exact Below.refl _ _|refine keep_drew ?_|refine keep_alloc ?_ _|refine keep_trans ?_ (by assumption))));obtain ⟨xo00,xo01,xo02,xo0l⟩:=c3_of (keepq hko0 FQ0.out);obtain ⟨eo00,eo01,eo02,eo0l⟩:=c3_of (keepq hko0 FQ5.out);obtain ⟨ho00,ho01,ho02,ho0l⟩:=c3_of (keepq hko0 FQ7.out);obtain ⟨jo00,jo01,jo02,jo0l⟩:=c3_of (keepq hko0 FQ9.out);obtain ⟨mo00,mo01,mo02,mo0l⟩:=c3_of (keepq hko0 QU8.out);obtain ⟨qo00,qo01,qo02,qo0l⟩:=c3_of (keepq hko0 QV8.out))|(go_at_call 24;(with_reducible refine (M1.out _ _ _ (by (repeat (first|assumption|exact Below.refl _ _|refine keep_drew ?_|refine keep_alloc ?_ _|refine keep_trans ?_ (by assumption)))) hi9).mono ?_);rintro _ o1 ⟨rfl,hbo1⟩;have hko1:Below V7.heap.size V7 o1:=(by (repeat (first|assumption|exact Below.refl _ _|refine keep_drew ?_|refine keep_alloc ?_ _|refine keep_trans ?_ (by assumption))));obtain ⟨xo10,xo11,xo12,xo1l⟩:=c3_of (keepq hko1 FQ0.out);obtain ⟨eo10,eo11,eo12,eo1l⟩:=c3_of (keepq hko1 FQ5.out);obtain ⟨ho10,ho11,ho12,ho1l⟩:=c3_of (keepq hko1 FQ7.out);obtain ⟨jo10,jo11,jo12,jo1l⟩:=c3_of (keepq hko1 FQ9.out);obtain ⟨mo10,mo11,mo12,mo1l⟩:=c3_of (keepq hko1 QU8.out);obtain ⟨qo10,qo11,qo12,qo1l⟩:=c3_of (keepq hko1 QV8.out))|(go_at_call 24;(with_reducible refine (M2.out _ (by (repeat (first|assumption|exact Below.refl _ _|refine keep_drew ?_|refine keep_alloc ?_ _|refine keep_trans ?_ (by assumption))))).mono ?_);rintro _ o2 ⟨rfl,hbo2⟩;have hko2:Below V7.heap.size V7 o2:=(by (repeat (first|assumption|exact Below.refl _ _|refine keep_drew ?_|refine keep_alloc ?_ _|refine keep_trans ?_ (by assumption))));obtain ⟨xo20,xo21,xo22,xo2l⟩:=c3_of (keepq hko2 FQ0.out);obtain ⟨eo20,eo21,eo22,eo2l⟩:=c3_of (keepq hko2 FQ5.out);obtain ⟨ho20,ho21,ho22,ho2l⟩:=c3_of (keepq hko2 FQ7.out);obtain ⟨jo20,jo21,jo22,jo2l⟩:=c3_of (keepq hko2 FQ9.out);obtain ⟨mo20,mo21,mo22,mo2l⟩:=c3_of (keepq hko2 QU8.out);obtain ⟨qo20,qo21,qo22,qo2l⟩:=c3_of (keepq hko2 QV8.out))|(go_at_call 24;(with_reducible refine (M3.out _ (by (repeat (first|assumption|exact Below.refl _ _|refine keep_drew ?_|refine keep_alloc ?_ _|refine keep_trans ?_ (by assumption))))).mono ?_);rintro _ o3 ⟨rfl,hbo3⟩;have hko3:Below V7.heap.size V7 o3:=(by (repeat (first|assumption|exact Below.refl _ _|refine keep_drew ?_|refine keep_alloc ?_ _|refine keep_trans ?_ (by assumption))));obtain ⟨xo30,xo31,xo32,xo3l⟩:=c3_of (keepq hko3 FQ0.out);obtain ⟨eo30,eo31,eo32,eo3l⟩:=c3_of (keepq hko3 FQ5.out);obtain ⟨ho30,ho31,ho32,ho3l⟩:=c3_of (keepq hko3 FQ7.out);obtain ⟨jo30,jo31,jo32,jo3l⟩:=c3_of (keepq hko3 FQ9.out);obtain ⟨mo30,mo31,mo32,mo3l⟩:=c3_of (keepq hko3 QU8.out);obtain ⟨qo30,qo31,qo32,qo3l⟩:=c3_of (keepq hko3 QV8.out))|(go_at_call 20;refine (awake4_c _).mono ?_;rintro _ wz ⟨rfl,hbz⟩)|fail);refine ⟨?_,?_⟩;focus (exact ⟨_,below_over (by repeat (first|assumption|exact Below.refl _ _|refine keep_drew ?_|refine keep_alloc ?_ _|refine keep_trans ?_ (by assumption)))⟩)))
  refine wpS_late _ _ _ rfl ?_
  dsimp only[List.map]
  go_wp2_with (first|(go_at_call 89;(with_reducible refine (HR1.out _ (keep_trans HB8.out (by (repeat (first|assumption|exact Below.refl _ _|refine keep_drew ?_|refine keep_alloc ?_ _|refine keep_trans ?_ (by assumption)))))).mono ?_);rintro _ o0 ⟨a9,c9,rfl,hf9,hi9,hbo0⟩;have hko0:Below V7.heap.size V7 o0:=(by (repeat (first|assumption|exact Below.refl _ _|refine keep_drew ?_|refine keep_alloc ?_ _|refine keep_trans ?_ (by assumption))));obtain ⟨xo00,xo01,xo02,xo0l⟩:=c3_of (keepq hko0 FQ0.out);obtain ⟨eo00,eo01,eo02,eo0l⟩:=c3_of (keepq hko0 FQ5.out);obtain ⟨ho00,ho01,ho02,ho0l⟩:=c3_of (keepq hko0 FQ7.out);obtain ⟨jo00,jo01,jo02,jo0l⟩:=c3_of (keepq hko0 FQ9.out);obtain ⟨mo00,mo01,mo02,mo0l⟩:=c3_of (keepq hko0 QU8.out);obtain ⟨qo00,qo01,qo02,qo0l⟩:=c3_of (keepq hko0 QV8.out))|(go_at_call 24;(with_reducible refine (M1.out _ _ _ (by (repeat (first|assumption|exact Below.refl _ _|refine keep_drew ?_|refine keep_alloc ?_ _|refine keep_trans ?_ (by assumption)))) hi9).mono ?_);rintro _ o1 ⟨rfl,hbo1⟩;have hko1:Below V7.heap.size V7 o1:=(by (repeat (first|assumption|exact Below.refl _ _|refine keep_drew ?_|refine keep_alloc ?_ _|refine keep_trans ?_ (by assumption))));obtain ⟨xo10,xo11,xo12,xo1l⟩:=c3_of (keepq hko1 FQ0.out);obtain ⟨eo10,eo11,eo12,eo1l⟩:=c3_of (keepq hko1 FQ5.out);obtain ⟨ho10,ho11,ho12,ho1l⟩:=c3_of (keepq hko1 FQ7.out);obtain ⟨jo10,jo11,jo12,jo1l⟩:=c3_of (keepq hko1 FQ9.out);obtain ⟨mo10,mo11,mo12,mo1l⟩:=c3_of (keepq hko1 QU8.out);obtain ⟨qo10,qo11,qo12,qo1l⟩:=c3_of (keepq hko1 QV8.out))|(go_at_call 24;(with_reducible refine (M2.out _ (by (repeat (first|assumption|exact Below.refl _ _|refine keep_drew ?_|refine keep_alloc ?_ _|refine keep_trans ?_ (by assumption))))).mono ?_);rintro _ o2 ⟨rfl,hbo2⟩;have hko2:Below V7.heap.size V7 o2:=(by (repeat (first|assumption|exact Below.refl _ _|refine keep_drew ?_|refine keep_alloc ?_ _|refine keep_trans ?_ (by assumption))));obtain ⟨xo20,xo21,xo22,xo2l⟩:=c3_of (keepq hko2 FQ0.out);obtain ⟨eo20,eo21,eo22,eo2l⟩:=c3_of (keepq hko2 FQ5.out);obtain ⟨ho20,ho21,ho22,ho2l⟩:=c3_of (keepq hko2 FQ7.out);obtain ⟨jo20,jo21,jo22,jo2l⟩:=c3_of (keepq hko2 FQ9.out);obtain ⟨mo20,mo21,mo22,mo2l⟩:=c3_of (keepq hko2 QU8.out);obtain ⟨qo20,qo21,qo22,qo2l⟩:=c3_of (keepq hko2 QV8.out))|(go_at_call 24;(with_reducible refine (M3.out _ (by (repeat (first|assumption|exact Below.refl _ _|refine keep_drew ?_|refine keep_alloc ?_ _|refine keep_trans ?_ (by assumption))))).mono ?_);rintro _ o3 ⟨rfl,hbo3⟩;have hko3:Below V7.heap.size V7 o3:=(by (repeat (first|assumption|exact Below.refl _ _|refine keep_drew ?_|refine keep_alloc ?_ _|refine keep_trans ?_ (by assumption))));obtain ⟨xo30,xo31,xo32,xo3l⟩:=c3_of (keepq hko3 FQ0.out);obtain ⟨eo30,eo31,eo32,eo3l⟩:=c3_of (keepq hko3 FQ5.out);obtain ⟨ho30,ho31,ho32,ho3l⟩:=c3_of (keepq hko3 FQ7.out);obtain ⟨jo30,jo31,jo32,jo3l⟩:=c3_of (keepq hko3 FQ9.out);obtain ⟨mo30,mo31,mo32,mo3l⟩:=c3_of (keepq hko3 QU8.out);obtain ⟨qo30,qo31,qo32,qo3l⟩:=c3_of (keepq hko3 QV8.out))|(go_at_call 20;refine (awake4_c _).mono ?_;rintro _ wz ⟨rfl,hbz⟩)|fail)
  refine NoPanic.normal ?_
  go_wp2_with fail
  refine bodyPost_ret (v := .bool true) ?_ rfl ⟨rfl,keep_trans HB8.out (show Below V7.heap.size V7 wz by (repeat (first|assumption|exact Below.refl _ _|refine keep_drew ?_|refine keep_alloc ?_ _|refine keep_trans ?_ (by assumption))))⟩
  simp[results,Tryz.f17,go_sem]
theorem lforms_nv (r C:Int) (a:Option Addr) (n c:Nat) (aR:Option Addr) (nR cR:Nat) (aK:Option Addr) (nK cK:Nat) (aM:Option Addr) (nM cM:Nat) (p0 p1 p2:Int) (w:World) (h0:¬300<n) (h1:¬40<nR) (h2:¬40<nK) (h3:¬40<nM) (R1 R2 R3:Int) (k1 k2 k3:Nat) (X1 X2 X3:List Int) (er1 er2 er3:Int) (t1 t2 t3 s3:Int) (S2:t1≠0→t2=t1) (S3:t2≠0→t3=t2) (z1:Nat) (Y1:List Int) (hm1:madeB R1 R1 X1 er1 r r Y1 0=true) (h3:t3≠0) (z3:Nat) (Y3:List Int) (h4:s3=0) (hm2:madeB R2 R2 X2 er2 0 0 [] t3=true) (hm3:madeB R3 R3 X3 er3 r r Y3 s3=true)
  (HA:∀W,Below w.heap.size w W→Calls Tryz.prog 22 #[.agg #[.int .i64 r,.int .i64 C,.slice a n c]] W fun e w'=>e = .returned (.int .i64 0)∧Below W.heap.size W w')
  (H1:∀W,Below w.heap.size w W→Calls Tryz.prog 83 #[.agg #[.int .i64 r,.int .i64 C,.slice a n c]] W fun e w'=>∃a2 c2,e = .returned (.tuple #[.agg #[.int .i64 R1,.int .i64 R1,.slice a2 k1 c2],.int .i64 er1])∧IC w' a2 k1 X1∧Below W.heap.size W w')
  (H2:∀W,Below w.heap.size w W→Calls Tryz.prog 84 #[.agg #[.int .i64 r,.int .i64 C,.slice a n c],.slice aR nR cR,.slice aK nK cK,.slice aM nM cM] W fun e w'=>∃a2 c2,e = .returned (.tuple #[.agg #[.int .i64 R2,.int .i64 R2,.slice a2 k2 c2],.int .i64 er2])∧IC w' a2 k2 X2∧Below W.heap.size W w')
  (H3:∀W,Below w.heap.size w W→Calls Tryz.prog 85 #[.agg #[.int .i64 r,.int .i64 C,.slice a n c],.agg #[.int .i64 p0,.int .i64 p1,.int .i64 p2]] W fun e w'=>∃a2 c2,e = .returned (.tuple #[.agg #[.int .i64 R3,.int .i64 R3,.slice a2 k3 c2],.int .i64 er3])∧IC w' a2 k3 X3∧Below W.heap.size W w')
  (P0:∀W,Below w.heap.size w W→Calls Tryz.prog 86 #[.slice aR nR cR,.int .i64 r] W fun e w'=>e = .returned (.int .i64 t1)∧Below W.heap.size W w')
  (P1:t1=0→∀W,Below w.heap.size w W→Calls Tryz.prog 86 #[.slice aK nK cK,.int .i64 r] W fun e w'=>e = .returned (.int .i64 t2)∧Below W.heap.size W w')
  (P2:t2=0→∀W,Below w.heap.size w W→Calls Tryz.prog 86 #[.slice aM nM cM,.int .i64 r] W fun e w'=>e = .returned (.int .i64 t3)∧Below W.heap.size W w')
  (P3:∀W b,IC W (some ⟨b,3,none⟩) 3 [p0,p1,p2]→Calls Tryz.prog 86 #[.slice (some ⟨b,3,none⟩) 3 3,.int .i64 3] W fun e w'=>e = .returned (.int .i64 s3)∧Below W.heap.size W w')
  (HR1:∀W,Below w.heap.size w W→Calls Tryz.prog 89 #[.agg #[.int .i64 r,.int .i64 C,.slice a n c]] W fun e w'=>∃a2 c2,e = .returned (.agg #[.int .i64 r,.int .i64 r,.slice a2 z1 c2])∧(∀b2 o2,a2=some ⟨b2,o2,none⟩→W.heap.size≤b2)∧IC w' a2 z1 Y1∧Below W.heap.size W w')
  (HR3:∀W,Below w.heap.size w W→Calls Tryz.prog 88 #[.agg #[.int .i64 r,.int .i64 C,.slice a n c],.agg #[.int .i64 p0,.int .i64 p1,.int .i64 p2]] W fun e w'=>∃a2 c2,e = .returned (.agg #[.int .i64 r,.int .i64 r,.slice a2 z3 c2])∧(∀b2 o2,a2=some ⟨b2,o2,none⟩→W.heap.size≤b2)∧IC w' a2 z3 Y3∧Below W.heap.size W w')
  : Calls Tryz.prog 17 #[.agg #[.int .i64 r,.int .i64 C,.slice a n c],.agg #[.slice aR nR cR,.slice aK nK cK,.slice aM nM cM,.int .i64 p0,.int .i64 p1,.int .i64 p2]] w fun e w'=>e = .returned (.bool true)∧Below w.heap.size w w':=by
 have hg0:decide ((300:Int)<(n:Int))=false:=decide_eq_false (by omega)
 have hg1:decide ((40:Int)<(nR:Int))=false:=decide_eq_false (by omega)
 have hg2:decide ((40:Int)<(nK:Int))=false:=decide_eq_false (by omega)
 have hg3:decide ((40:Int)<(nM:Int))=false:=decide_eq_false (by omega)
 have e3:(t3==0)=false:=by simpa using h3
 have e4:(s3==0)=true:=by simpa using h4
 clear h3 h4
 have HA:=Lib.hid HA
 have H1:=Lib.hid H1
 have H2:=Lib.hid H2
 have H3:=Lib.hid H3
 have P0:=Lib.hid P0
 have P1:=Lib.hid P1
 have P2:=Lib.hid P2
 have P3:=Lib.hid P3
 have HR1:=Lib.hid HR1
 have hm1:=Lib.hid hm1
 have hm2:=Lib.hid hm2
 have hm3:=Lib.hid hm3
 have S2:=Lib.hid S2
 have S3:=Lib.hid S3
 have e3:=Lib.hid e3
 have e4:=Lib.hid e4
 have HR3:=Lib.hid HR3
 go_enter Tryz.func17,Tryz.ntmps17
 go_upto_region 1 with fail
 have fsz:((w.alloc (.cells #[.int .i64 r,.int .i64 C,.slice a n c] 24)).alloc (.cells #[.slice aR nR cR,.slice aK nK cK,.slice aM nM cM,.int .i64 p0,.int .i64 p1,.int .i64 p2] 98)).heap.size=w.heap.size+2:=by simp only[World.size_alloc] <;> omega
 have fB:Below w.heap.size w ((w.alloc (.cells #[.int .i64 r,.int .i64 C,.slice a n c] 24)).alloc (.cells #[.slice aR nR cR,.slice aK nK cK,.slice aM nM cM,.int .i64 p0,.int .i64 p1,.int .i64 p2] 98)):=((Below.refl _ _).alloc (Nat.le_refl _) _).alloc (by simp only[World.size_alloc];omega) _
 have fq0:((w.alloc (.cells #[.int .i64 r,.int .i64 C,.slice a n c] 24)).alloc (.cells #[.slice aR nR cR,.slice aK nK cK,.slice aM nM cM,.int .i64 p0,.int .i64 p1,.int .i64 p2] 98)).heap[w.heap.size]?=some (.cells #[.int .i64 r,.int .i64 C,.slice a n c] 24 (0,0)):=by have h:=World.alloc_heap_new w (.cells #[.int .i64 r,.int .i64 C,.slice a n c] 24);exact (Below.heap_alloc _ _ _ (by simp only[World.size_alloc];omega)).trans (h)
 have fq1:((w.alloc (.cells #[.int .i64 r,.int .i64 C,.slice a n c] 24)).alloc (.cells #[.slice aR nR cR,.slice aK nK cK,.slice aM nM cM,.int .i64 p0,.int .i64 p1,.int .i64 p2] 98)).heap[w.heap.size+1]?=some (.cells #[.slice aR nR cR,.slice aK nK cK,.slice aM nM cM,.int .i64 p0,.int .i64 p1,.int .i64 p2] 98 (0,0)):=by have h:=World.alloc_heap_new (w.alloc (.cells #[.int .i64 r,.int .i64 C,.slice a n c] 24)) (.cells #[.slice aR nR cR,.slice aK nK cK,.slice aM nM cM,.int .i64 p0,.int .i64 p1,.int .i64 p2] 98);simp only[World.size_alloc] at h;exact h
 generalize ((w.alloc (.cells #[.int .i64 r,.int .i64 C,.slice a n c] 24)).alloc (.cells #[.slice aR nR cR,.slice aK nK cK,.slice aM nM cM,.int .i64 p0,.int .i64 p1,.int .i64 p2] 98))=W0 at fsz fB fq0 fq1 ⊢
 have Q0:=Lib.hid fq0
 have Q1:=Lib.hid fq1
 have FB:=Lib.hid fB
 obtain ⟨x0,x1,x2,xl⟩:=c3_of fq0
 obtain ⟨y0,y1,y2,y3,y4,y5,yl⟩:=c6_of fq1
 clear fq0 fq1 fsz fB
 go_upto_region 4 with (first|(go_at_call 19;(with_reducible refine (lgreat_c r C a n c 300 _).mono ?_);rintro _ w1 ⟨rfl,hbw1⟩;have hkw1:Below W0.heap.size W0 w1:=(by (repeat (first|assumption|exact Below.refl _ _|refine keep_drew ?_|refine keep_alloc ?_ _|refine keep_trans ?_ (by assumption))));obtain ⟨xw10,xw11,xw12,xw1l⟩:=c3_of (keepq hkw1 Q0.out);obtain ⟨yw10,yw11,yw12,yw13,yw14,yw15,yw1l⟩:=c6_of (keepq hkw1 Q1.out))|(go_at_call 83;(with_reducible refine (H1.out _ (keep_trans FB.out (by (repeat (first|assumption|exact Below.refl _ _|refine keep_drew ?_|refine keep_alloc ?_ _|refine keep_trans ?_ (by assumption)))))).mono ?_);rintro _ u0 ⟨b1,d1,rfl,hi0,hbu0⟩;have hku0:Below W0.heap.size W0 u0:=(by (repeat (first|assumption|exact Below.refl _ _|refine keep_drew ?_|refine keep_alloc ?_ _|refine keep_trans ?_ (by assumption)))))|fail)
 have gsz:(u0.alloc (.cells #[.int .i64 R1,.int .i64 R1,.slice b1 k1 d1] 24)).heap.size=u0.heap.size+1:=by simp only[World.size_alloc]
 have gB:Below u0.heap.size u0 (u0.alloc (.cells #[.int .i64 R1,.int .i64 R1,.slice b1 k1 d1] 24)):=(Below.refl _ _).alloc (Nat.le_refl _) _
 have gq0:(u0.alloc (.cells #[.int .i64 R1,.int .i64 R1,.slice b1 k1 d1] 24)).heap[u0.heap.size]?=some (.cells #[.int .i64 R1,.int .i64 R1,.slice b1 k1 d1] 24 (0,0)):=by have h:=World.alloc_heap_new u0 (.cells #[.int .i64 R1,.int .i64 R1,.slice b1 k1 d1] 24);exact h
 generalize (u0.alloc (.cells #[.int .i64 R1,.int .i64 R1,.slice b1 k1 d1] 24))=V1 at gsz gB gq0 ⊢
 have hkk:=keep_trans hku0 gB
 have NQ0:=Lib.hid (keepq hkk Q0.out)
 have NQ1:=Lib.hid (keepq hkk Q1.out)
 have NB:=Lib.hid (keep_trans FB.out hkk)
 have NQ5:=Lib.hid gq0
 have NI1:=Lib.hid (hi0.mono gB)
 clear gsz gq0 gB hkk hku0 hbu0 hi0 x0 x1 x2 xl y0 y1 y2 y3 y4 y5 yl FB Q1 Q0  xw10 xw11 xw12 xw1l yw10 yw11 yw12 yw13 yw14 yw15 yw1l hkw1 hbw1
 have Q0:=NQ0;clear NQ0
 have Q5:=NQ5;clear NQ5
 have Q1:=NQ1;clear NQ1
 have I1:=NI1;clear NI1
 have HB1:=NB;clear NB
 obtain ⟨x0,x1,x2,xl⟩:=c3_of Q0.out
 obtain ⟨e0,e1,e2,el⟩:=c3_of Q5.out
 obtain ⟨y0,y1,y2,y3,y4,y5,yl⟩:=c6_of Q1.out
 go_upto_region 5 with (first|(go_at_call 84;(with_reducible refine (H2.out _ (keep_trans HB1.out (by (repeat (first|assumption|exact Below.refl _ _|refine keep_drew ?_|refine keep_alloc ?_ _|refine keep_trans ?_ (by assumption)))))).mono ?_);rintro _ u1 ⟨b2,d2,rfl,hi1,hbu1⟩;have hku1:Below V1.heap.size V1 u1:=(by (repeat (first|assumption|exact Below.refl _ _|refine keep_drew ?_|refine keep_alloc ?_ _|refine keep_trans ?_ (by assumption)))))|fail)
 have gsz:(u1.alloc (.cells #[.int .i64 R2,.int .i64 R2,.slice b2 k2 d2] 24)).heap.size=u1.heap.size+1:=by simp only[World.size_alloc]
 have gB:Below u1.heap.size u1 (u1.alloc (.cells #[.int .i64 R2,.int .i64 R2,.slice b2 k2 d2] 24)):=(Below.refl _ _).alloc (Nat.le_refl _) _
 have gq0:(u1.alloc (.cells #[.int .i64 R2,.int .i64 R2,.slice b2 k2 d2] 24)).heap[u1.heap.size]?=some (.cells #[.int .i64 R2,.int .i64 R2,.slice b2 k2 d2] 24 (0,0)):=by have h:=World.alloc_heap_new u1 (.cells #[.int .i64 R2,.int .i64 R2,.slice b2 k2 d2] 24);exact h
 generalize (u1.alloc (.cells #[.int .i64 R2,.int .i64 R2,.slice b2 k2 d2] 24))=V2 at gsz gB gq0 ⊢
 have hkk:=keep_trans hku1 gB
 have NQ0:=Lib.hid (keepq hkk Q0.out)
 have NQ5:=Lib.hid (keepq hkk Q5.out)
 have NQ1:=Lib.hid (keepq hkk Q1.out)
 have NB:=Lib.hid (keep_trans HB1.out hkk)
 have NI1:=Lib.hid (I1.out.mono hkk)
 have NQ7:=Lib.hid gq0
 have NI2:=Lib.hid (hi1.mono gB)
 clear gsz gq0 gB hkk hku1 hbu1 hi1 x0 x1 x2 xl e0 e1 e2 el y0 y1 y2 y3 y4 y5 yl HB1 Q1 Q0 Q5 I1
 have Q0:=NQ0;clear NQ0
 have Q5:=NQ5;clear NQ5
 have Q7:=NQ7;clear NQ7
 have Q1:=NQ1;clear NQ1
 have I1:=NI1;clear NI1
 have I2:=NI2;clear NI2
 have HB2:=NB;clear NB
 obtain ⟨x0,x1,x2,xl⟩:=c3_of Q0.out
 obtain ⟨e0,e1,e2,el⟩:=c3_of Q5.out
 obtain ⟨h0,h1,h2,hl⟩:=c3_of Q7.out
 obtain ⟨y0,y1,y2,y3,y4,y5,yl⟩:=c6_of Q1.out
 go_upto_region 6 with (first|(go_at_call 85;(with_reducible refine (H3.out _ (keep_trans HB2.out (by (repeat (first|assumption|exact Below.refl _ _|refine keep_drew ?_|refine keep_alloc ?_ _|refine keep_trans ?_ (by assumption)))))).mono ?_);rintro _ u2 ⟨b3,d3,rfl,hi2,hbu2⟩;have hku2:Below V2.heap.size V2 u2:=(by (repeat (first|assumption|exact Below.refl _ _|refine keep_drew ?_|refine keep_alloc ?_ _|refine keep_trans ?_ (by assumption)))))|fail)
 have gsz:(u2.alloc (.cells #[.int .i64 R3,.int .i64 R3,.slice b3 k3 d3] 24)).heap.size=u2.heap.size+1:=by simp only[World.size_alloc]
 have gB:Below u2.heap.size u2 (u2.alloc (.cells #[.int .i64 R3,.int .i64 R3,.slice b3 k3 d3] 24)):=(Below.refl _ _).alloc (Nat.le_refl _) _
 have gq0:(u2.alloc (.cells #[.int .i64 R3,.int .i64 R3,.slice b3 k3 d3] 24)).heap[u2.heap.size]?=some (.cells #[.int .i64 R3,.int .i64 R3,.slice b3 k3 d3] 24 (0,0)):=by have h:=World.alloc_heap_new u2 (.cells #[.int .i64 R3,.int .i64 R3,.slice b3 k3 d3] 24);exact h
 generalize (u2.alloc (.cells #[.int .i64 R3,.int .i64 R3,.slice b3 k3 d3] 24))=V3 at gsz gB gq0 ⊢
 have hkk:=keep_trans hku2 gB
 have NQ0:=Lib.hid (keepq hkk Q0.out)
 have NQ5:=Lib.hid (keepq hkk Q5.out)
 have NQ7:=Lib.hid (keepq hkk Q7.out)
 have NQ1:=Lib.hid (keepq hkk Q1.out)
 have NB:=Lib.hid (keep_trans HB2.out hkk)
 have NI1:=Lib.hid (I1.out.mono hkk)
 have NI2:=Lib.hid (I2.out.mono hkk)
 have NQ9:=Lib.hid gq0
 have NI3:=Lib.hid (hi2.mono gB)
 clear gsz gq0 gB hkk hku2 hbu2 hi2 x0 x1 x2 xl e0 e1 e2 el h0 h1 h2 hl y0 y1 y2 y3 y4 y5 yl HB2 Q1 Q0 Q5 Q7 I1 I2
 have Q0:=NQ0;clear NQ0
 have Q5:=NQ5;clear NQ5
 have Q7:=NQ7;clear NQ7
 have Q9:=NQ9;clear NQ9
 have Q1:=NQ1;clear NQ1
 have I1:=NI1;clear NI1
 have I2:=NI2;clear NI2
 have I3:=NI3;clear NI3
 have HB3:=NB;clear NB
 obtain ⟨x0,x1,x2,xl⟩:=c3_of Q0.out
 obtain ⟨e0,e1,e2,el⟩:=c3_of Q5.out
 obtain ⟨h0,h1,h2,hl⟩:=c3_of Q7.out
 obtain ⟨j0,j1,j2,jl⟩:=c3_of Q9.out
 obtain ⟨y0,y1,y2,y3,y4,y5,yl⟩:=c6_of Q1.out
 go_upto_region 11 with (first|(go_at_call 22;(with_reducible refine (HA.out _ (keep_trans HB3.out (by (repeat (first|assumption|exact Below.refl _ _|refine keep_drew ?_|refine keep_alloc ?_ _|refine keep_trans ?_ (by assumption)))))).mono ?_);rintro _ v0 ⟨rfl,hbv0⟩;have hkv0:Below V3.heap.size V3 v0:=(by (repeat (first|assumption|exact Below.refl _ _|refine keep_drew ?_|refine keep_alloc ?_ _|refine keep_trans ?_ (by assumption))));obtain ⟨xv00,xv01,xv02,xv0l⟩:=c3_of (keepq hkv0 Q0.out);obtain ⟨ev00,ev01,ev02,ev0l⟩:=c3_of (keepq hkv0 Q5.out);obtain ⟨hv00,hv01,hv02,hv0l⟩:=c3_of (keepq hkv0 Q7.out);obtain ⟨jv00,jv01,jv02,jv0l⟩:=c3_of (keepq hkv0 Q9.out);obtain ⟨yv00,yv01,yv02,yv03,yv04,yv05,yv0l⟩:=c6_of (keepq hkv0 Q1.out))|fail)
 have hq9:=World.alloc_heap_new v0 (.cells #[.slice aR nR cR,.slice aK nK cK,.slice aM nM cM] 22)
 have hb9:Below V3.heap.size V3 (v0.alloc (.cells #[.slice aR nR cR,.slice aK nK cK,.slice aM nM cM] 22)):=keep_alloc hkv0 _
 have hk9:v0.heap.size<(v0.alloc (.cells #[.slice aR nR cR,.slice aK nK cK,.slice aM nM cM] 22)).heap.size:=q_lt hq9
 generalize (v0.alloc (.cells #[.slice aR nR cR,.slice aK nK cK,.slice aM nM cM] 22))=V4 at hq9 hb9 hk9 ⊢
 have Q9a:=Lib.hid hq9
 have HB4:=Lib.hid (keep_trans HB3.out hb9)
 have HV4:=Lib.hid hb9
 clear x0 x1 x2 xl e0 e1 e2 el h0 h1 h2 hl j0 j1 j2 jl y0 y1 y2 y3 y4 y5 yl hbv0 hkv0 xv00 xv01 xv02 xv0l ev00 ev01 ev02 ev0l hv00 hv01 hv02 hv0l jv00 jv01 jv02 jv0l yv00 yv01 yv02 yv03 yv04 yv05 yv0l hq9 hb9
 go_loopw [12,14,96] (fun s12 _ s96 wr=>∃(k:Nat) (t:Int),k≤3∧s96 = .int .i64 (k:Int)∧s12 = .int .i64 t∧(k=0→t=0)∧(k=1→t=t1)∧(k=2→t=t2)∧(k=3→t=t3)∧Hid (Below V4.heap.size V4 wr)) (fun _ _ s96 _=>3 - (intOf s96).toNat)
 case atStart=>exact ⟨0,0,by omega,rfl,rfl,fun _=>rfl,fun h=>absurd h (by decide),fun h=>absurd h (by decide),fun h=>absurd h (by decide),Below.refl _ _⟩
 case round =>
  obtain ⟨k,t,hk,rfl,rfl,T0,T1,T2,T3,hbr⟩:=hrel
  have hq:=keepq hbr.out Q9a.out
  have hqz:=q_lt hq
  have hb4r:=keep_trans HV4.out hbr.out
  have N0:=Lib.hid (keepq hb4r Q0.out)
  obtain ⟨x0,x1,x2,xl⟩:=c3_of N0.out
  clear hb4r
  by_cases ek0:k=0
  ·subst ek0
   have et:=(T0 rfl).symm
   subst et
   clear T0 T1 T2 T3
   have g0:=q_cell hq 0
   go_wp2_with (first|(go_at_call 86;(with_reducible refine (P0.out _ (keep_trans (keep_trans HB4.out hbr.out) (by (repeat (first|assumption|exact Below.refl _ _|refine keep_drew ?_|refine keep_alloc ?_ _|refine keep_trans ?_ (by assumption)))))).mono ?_);rintro _ w1 ⟨rfl,hbw1⟩)|fail)
   go_roundw
   case rel=>exact ⟨1,_,by omega,by go_num,rfl,fun h=>absurd h (by decide),fun _=>rfl,fun h=>absurd h (by decide),fun h=>absurd h (by decide),keep_trans hbr.out (show Below wr.heap.size wr w1 by (repeat (first|assumption|exact Below.refl _ _|refine keep_drew ?_|refine keep_alloc ?_ _|refine keep_trans ?_ (by assumption))))⟩
   case measure=>simp[intOf]
  by_cases ek1:k=1
  ·subst ek1
   have et:=(T1 rfl).symm
   subst et
   clear T0 T1 T2 T3
   have g0:=q_cell hq 1
   by_cases hz:t1=0
   ·have ez:(t1==0)=true:=by simpa using hz
    have hz:=Lib.hid hz
    go_wp2_with (first|(go_at_call 86;(with_reducible refine (P1.out hz.out _ (keep_trans (keep_trans HB4.out hbr.out) (by (repeat (first|assumption|exact Below.refl _ _|refine keep_drew ?_|refine keep_alloc ?_ _|refine keep_trans ?_ (by assumption)))))).mono ?_);rintro _ w1 ⟨rfl,hbw1⟩)|fail)
    go_roundw
    case rel=>exact ⟨2,_,by omega,by go_num,rfl,fun h=>absurd h (by decide),fun h=>absurd h (by decide),fun _=>rfl,fun h=>absurd h (by decide),keep_trans hbr.out (show Below wr.heap.size wr w1 by (repeat (first|assumption|exact Below.refl _ _|refine keep_drew ?_|refine keep_alloc ?_ _|refine keep_trans ?_ (by assumption))))⟩
    case measure=>simp[intOf]
   ·have ez:(t1==0)=false:=by simpa using hz
    have hz:=Lib.hid hz
    go_wp2_with fail
    go_roundw
    case rel=>exact ⟨2,_,by omega,by go_num,rfl,fun h=>absurd h (by decide),fun h=>absurd h (by decide),fun _=>(S2.out hz.out).symm,fun h=>absurd h (by decide),hbr.out⟩
    case measure=>simp[intOf]
  by_cases ek2:k=2
  ·subst ek2
   have et:=(T2 rfl).symm
   subst et
   clear T0 T1 T2 T3
   have g0:=q_cell hq 2
   by_cases hz:t2=0
   ·have ez:(t2==0)=true:=by simpa using hz
    have hz:=Lib.hid hz
    go_wp2_with (first|(go_at_call 86;(with_reducible refine (P2.out hz.out _ (keep_trans (keep_trans HB4.out hbr.out) (by (repeat (first|assumption|exact Below.refl _ _|refine keep_drew ?_|refine keep_alloc ?_ _|refine keep_trans ?_ (by assumption)))))).mono ?_);rintro _ w1 ⟨rfl,hbw1⟩)|fail)
    go_roundw
    case rel=>exact ⟨3,_,by omega,by go_num,rfl,fun h=>absurd h (by decide),fun h=>absurd h (by decide),fun h=>absurd h (by decide),fun _=>rfl,keep_trans hbr.out (show Below wr.heap.size wr w1 by (repeat (first|assumption|exact Below.refl _ _|refine keep_drew ?_|refine keep_alloc ?_ _|refine keep_trans ?_ (by assumption))))⟩
    case measure=>simp[intOf]
   ·have ez:(t2==0)=false:=by simpa using hz
    have hz:=Lib.hid hz
    go_wp2_with fail
    go_roundw
    case rel=>exact ⟨3,_,by omega,by go_num,rfl,fun h=>absurd h (by decide),fun h=>absurd h (by decide),fun h=>absurd h (by decide),fun _=>(S3.out hz.out).symm,hbr.out⟩
    case measure=>simp[intOf]
  have ek:k=3:=by omega
  subst ek
  have et:=(T3 rfl).symm
  subst et
  clear T0 T1 T2 T3
  have HV5:=Lib.hid (keep_trans HV4.out hbr.out)
  have HB5:=Lib.hid (keep_trans HB3.out HV5.out)
  clear hq hqz hbr x0 x1 x2 xl N0 hk ek0 ek1 ek2
  have NQ0:=Lib.hid (keepq HV5.out Q0.out)
  have NQ5:=Lib.hid (keepq HV5.out Q5.out)
  have NQ7:=Lib.hid (keepq HV5.out Q7.out)
  have NQ9:=Lib.hid (keepq HV5.out Q9.out)
  have NQ1:=Lib.hid (keepq HV5.out Q1.out)
  have NI1:=Lib.hid (I1.out.mono HV5.out)
  have NI2:=Lib.hid (I2.out.mono HV5.out)
  have NI3:=Lib.hid (I3.out.mono HV5.out)
  obtain ⟨x0,x1,x2,xl⟩:=c3_of NQ0.out
  obtain ⟨e0,e1,e2,el⟩:=c3_of NQ5.out
  obtain ⟨h0,h1,h2,hl⟩:=c3_of NQ7.out
  obtain ⟨j0,j1,j2,jl⟩:=c3_of NQ9.out
  obtain ⟨y0,y1,y2,y3,y4,y5,yl⟩:=c6_of NQ1.out
  go_upto_region 18 with (first|(go_at_call 86;(with_reducible refine (P3.out _ _ ((ic_box6 NQ1.out).mono (by (repeat (first|assumption|exact Below.refl _ _|refine keep_drew ?_|refine keep_alloc ?_ _|refine keep_trans ?_ (by assumption)))))).mono ?_);rintro _ s0 ⟨rfl,hbs0⟩;have hks0:Below wr.heap.size wr s0:=(by (repeat (first|assumption|exact Below.refl _ _|refine keep_drew ?_|refine keep_alloc ?_ _|refine keep_trans ?_ (by assumption)))))|fail)
  have gsz:((s0.alloc (.cells #[.int .i64 0,.int .i64 0,.slice none 0 0] 24)).alloc (.cells #[.int .i64 0,.int .i64 0,.slice none 0 0] 24)).heap.size=s0.heap.size+2:=by simp only[World.size_alloc] <;> omega
  have gB:Below s0.heap.size s0 ((s0.alloc (.cells #[.int .i64 0,.int .i64 0,.slice none 0 0] 24)).alloc (.cells #[.int .i64 0,.int .i64 0,.slice none 0 0] 24)):=((Below.refl _ _).alloc (Nat.le_refl _) _).alloc (by simp only[World.size_alloc];omega) _
  have gq0:((s0.alloc (.cells #[.int .i64 0,.int .i64 0,.slice none 0 0] 24)).alloc (.cells #[.int .i64 0,.int .i64 0,.slice none 0 0] 24)).heap[s0.heap.size]?=some (.cells #[.int .i64 0,.int .i64 0,.slice none 0 0] 24 (0,0)):=by have h:=World.alloc_heap_new s0 (.cells #[.int .i64 0,.int .i64 0,.slice none 0 0] 24);exact (Below.heap_alloc _ _ _ (by simp only[World.size_alloc];omega)).trans (h)
  have gq1:((s0.alloc (.cells #[.int .i64 0,.int .i64 0,.slice none 0 0] 24)).alloc (.cells #[.int .i64 0,.int .i64 0,.slice none 0 0] 24)).heap[s0.heap.size+1]?=some (.cells #[.int .i64 0,.int .i64 0,.slice none 0 0] 24 (0,0)):=by have h:=World.alloc_heap_new (s0.alloc (.cells #[.int .i64 0,.int .i64 0,.slice none 0 0] 24)) (.cells #[.int .i64 0,.int .i64 0,.slice none 0 0] 24);simp only[World.size_alloc] at h;exact h
  generalize ((s0.alloc (.cells #[.int .i64 0,.int .i64 0,.slice none 0 0] 24)).alloc (.cells #[.int .i64 0,.int .i64 0,.slice none 0 0] 24))=V6 at gsz gB gq0 gq1 ⊢
  have HV6:=Lib.hid (keep_trans hks0 gB)
  have HS6:Hid (wr.heap.size≤s0.heap.size):=hks0.size
  have HS7:Hid (V6.heap.size=s0.heap.size+2):=gsz
  have QU:=Lib.hid gq0
  have QV:=Lib.hid gq1
  clear x0 x1 x2 xl e0 e1 e2 el h0 h1 h2 hl j0 j1 j2 jl y0 y1 y2 y3 y4 y5 yl gsz gq0 gq1 gB hbs0 hks0
  have HV7:=HV6
  have QU7:=QU
  have QV7:=QV
  have IU7:Hid (IC V6 none 0 []):=⟨⟨rfl,by omega⟩,fun k hk=>absurd hk (by omega)⟩
  have HN7:Hid (∀b2 off,(none:Option Addr)=some ⟨b2,off,none⟩→b2≠s0.heap.size+1):=fun b o e=>by cases e
  have HZ7:Hid (s0.heap.size+2≤V6.heap.size):=by unfold Hid;rw[HS7.out];omega
  obtain ⟨x0,x1,x2,xl⟩:=c3_of (Lib.hid (keepq HV7.out NQ0.out)).out
  obtain ⟨y0,y1,y2,y3,y4,y5,yl⟩:=c6_of (Lib.hid (keepq HV7.out NQ1.out)).out
  obtain ⟨l0,l1,l2,ll⟩:=c3_of QV7.out
  go_upto_region 22 with (first|(go_at_call 88;refine (HR3.out _ (keep_trans HB5.out HV7.out)).mono ?_;rintro _ w8 ⟨a8,c8,rfl,hf8,hi8,hbw8⟩;obtain ⟨l80,l81,l82,l8l⟩:=c3_of (keepq hbw8 QV7.out);obtain ⟨lf0,lf1,lf2⟩:=f3_of (keepq hbw8 QV7.out))|fail)
  have g3:=st3_q (x0 := .int .i64 r) (x1 := .int .i64 r) (x2 := .slice a8 z3 c8) (keepq hbw8 QV7.out)
  have hb3:=st3_below (x0 := .int .i64 r) (x1 := .int .i64 r) (x2 := .slice a8 z3 c8) (b:=s0.heap.size+1) (keep_trans HV7.out hbw8) (Nat.le_succ_of_le HS6.out)
  have i8:=hi8.st3 (x0 := .int .i64 r) (x1 := .int .i64 r) (x2 := .slice a8 z3 c8) (b:=s0.heap.size+1) (fun b o e=>by have:=hf8 b o e;have:=HZ7.out;omega)
  have i7:=(IU7.out.mono hbw8).st3 (x0 := .int .i64 r) (x1 := .int .i64 r) (x2 := .slice a8 z3 c8) (b:=s0.heap.size+1) HN7.out
  have q4:=q_other (i:=2) (q_other (i:=1) (q_other (i:=0) (keepq hbw8 QU7.out) (show s0.heap.size≠s0.heap.size+1 by omega) (.int .i64 r)) (show s0.heap.size≠s0.heap.size+1 by omega) (.int .i64 r)) (show s0.heap.size≠s0.heap.size+1 by omega) (.slice a8 z3 c8)
  generalize (((w8.setCell ⟨s0.heap.size+1,0,none⟩ (.int .i64 r)).setCell ⟨s0.heap.size+1,1,none⟩ (.int .i64 r)).setCell ⟨s0.heap.size+1,2,none⟩ (.slice a8 z3 c8))=V8 at i7 i8 q4 g3 hb3 ⊢
  have HV8:=Lib.hid hb3
  have QU8:=Lib.hid q4
  have QV8:=Lib.hid g3
  have IU8:=Lib.hid i7
  have IV8:=Lib.hid i8
  clear x0 x1 x2 xl y0 y1 y2 y3 y4 y5 yl l0 l1 l2 ll l80 l81 l82 l8l lf0 lf1 lf2 g3 hb3 i7 i8 q4 hf8 hi8 hbw8
  have FQ0:=Lib.hid (keepq HV8.out NQ0.out)
  have FQ5:=Lib.hid (keepq HV8.out NQ5.out)
  have FQ7:=Lib.hid (keepq HV8.out NQ7.out)
  have FQ9:=Lib.hid (keepq HV8.out NQ9.out)
  obtain ⟨x0,x1,x2,xl⟩:=c3_of FQ0.out
  obtain ⟨e0,e1,e2,el⟩:=c3_of FQ5.out
  obtain ⟨h0,h1,h2,hl⟩:=c3_of FQ7.out
  obtain ⟨j0,j1,j2,jl⟩:=c3_of FQ9.out
  obtain ⟨m0,m1,m2,ml⟩:=c3_of QU8.out
  obtain ⟨q0,q1,q2,ql⟩:=c3_of QV8.out
  have HB8:=Lib.hid (keep_trans HB5.out HV8.out)
  have FI1:=Lib.hid (NI1.out.mono HV8.out)
  have FI2:=Lib.hid (NI2.out.mono HV8.out)
  have FI3:=Lib.hid (NI3.out.mono HV8.out)
  have M1:=Lib.hid (fun W a9 c9 (hb:Below V8.heap.size V8 W) (hi:IC W a9 z1 Y1)=>lmade_v R1 R1 b1 k1 d1 X1 er1 r r a9 z1 c9 Y1 0 W true hm1.out (FI1.out.mono hb) hi)
  have M2:=Lib.hid (fun W (hb:Below V8.heap.size V8 W)=>lmade_v R2 R2 b2 k2 d2 X2 er2 0 0 none 0 0 [] t3 W true hm2.out (FI2.out.mono hb) (IU8.out.mono hb))
  have M3:=Lib.hid (fun W (hb:Below V8.heap.size V8 W)=>lmade_v R3 R3 b3 k3 d3 X3 er3 r r a8 z3 c8 Y3 s3 W true hm3.out (FI3.out.mono hb) (IV8.out.mono hb))
  refine wp_region_S (fun w'=>∃u,w'=over (V8) u) [22] [(0,0),(0,1),(0,2),(1,3),(1,4),(0,5),(0,6),(0,7),(0,8),(0,9),(1,10),(0,11),(0,12),(0,13),(0,14),(0,15),(0,16),(1,17),(0,18),(0,19),(1,20),(0,21),(2,22)] (by kernel_rfl) (by kernel_rfl) (by exact ⟨_,below_over (by repeat (first|assumption|exact Below.refl _ _|refine keep_drew ?_|refine keep_alloc ?_ _|refine keep_trans ?_ (by assumption)))⟩) ?_
  dsimp only[pickOps,nthOp]
  repeat (first|(refine wpS_skip rfl (fun K hK=>?_);go_big_quiet_op;refine hK _ ?_;clear hK K)|(refine wpS_quiet rfl rfl (fun K hK=>?_);go_big_quiet_op;refine hK _ ?_;clear hK K)|(refine wpS_loud ?_;go_wp2_with (first|(go_at_call 89;(with_reducible refine (HR1.out _ (keep_trans HB8.out (by (repeat (first|assumption|exact Below.refl _ _|refine keep_drew ?_|refine keep_alloc ?_ _|refine keep_trans ?_ (by assumption)))))).mono ?_);rintro _ o0 ⟨a9,c9,rfl,hf9,hi9,hbo0⟩;have hko0:Below V8.heap.size V8 o0:=(by (repeat (first|assumption|exact Below.refl _ _|refine keep_drew ?_|refine keep_alloc ?_ _|refine keep_trans ?_ (by assumption))));obtain ⟨xo00,xo01,xo02,xo0l⟩:=c3_of (keepq hko0 FQ0.out);obtain ⟨eo00,eo01,eo02,eo0l⟩:=c3_of (keepq hko0 FQ5.out);obtain ⟨ho00,ho01,ho02,ho0l⟩:=c3_of (keepq hko0 FQ7.out);obtain ⟨jo00,jo01,jo02,jo0l⟩:=c3_of (keepq hko0 FQ9.out);obtain ⟨mo00,mo01,mo02,mo0l⟩:=c3_of (keepq hko0 QU8.out);obtain ⟨qo00,qo01,qo02,qo0l⟩:=c3_of (keepq hko0 QV8.out))|(go_at_call 24;(with_reducible refine (M1.out _ _ _ (by (repeat (first|assumption|exact Below.refl _ _|refine keep_drew ?_|refine keep_alloc ?_ _|refine keep_trans ?_ (by assumption)))) hi9).mono ?_);rintro _ o1 ⟨rfl,hbo1⟩;have hko1:Below V8.heap.size V8 o1:=(by (repeat (first|assumption|exact Below.refl _ _|refine keep_drew ?_|refine keep_alloc ?_ _|refine keep_trans ?_ (by assumption))));obtain ⟨xo10,xo11,xo12,xo1l⟩:=c3_of (keepq hko1 FQ0.out);obtain ⟨eo10,eo11,eo12,eo1l⟩:=c3_of (keepq hko1 FQ5.out);obtain ⟨ho10,ho11,ho12,ho1l⟩:=c3_of (keepq hko1 FQ7.out);obtain ⟨jo10,jo11,jo12,jo1l⟩:=c3_of (keepq hko1 FQ9.out);obtain ⟨mo10,mo11,mo12,mo1l⟩:=c3_of (keepq hko1 QU8.out);obtain ⟨qo10,qo11,qo12,qo1l⟩:=c3_of (keepq hko1 QV8.out))|(go_at_call 24;(with_reducible refine (M2.out _ (by (repeat (first|assumption|exact Below.refl _ _|refine keep_drew ?_|refine keep_alloc ?_ _|refine keep_trans ?_ (by assumption))))).mono ?_);rintro _ o2 ⟨rfl,hbo2⟩;have hko2:Below V8.heap.size V8 o2:=(by (repeat (first|assumption|exact Below.refl _ _|refine keep_drew ?_|refine keep_alloc ?_ _|refine keep_trans ?_ (by assumption))));obtain ⟨xo20,xo21,xo22,xo2l⟩:=c3_of (keepq hko2 FQ0.out);obtain ⟨eo20,eo21,eo22,eo2l⟩:=c3_of (keepq hko2 FQ5.out);obtain ⟨ho20,ho21,ho22,ho2l⟩:=c3_of (keepq hko2 FQ7.out);obtain ⟨jo20,jo21,jo22,jo2l⟩:=c3_of (keepq hko2 FQ9.out);obtain ⟨mo20,mo21,mo22,mo2l⟩:=c3_of (keepq hko2 QU8.out);obtain ⟨qo20,qo21,qo22,qo2l⟩:=c3_of (keepq hko2 QV8.out))|(go_at_call 24;(with_reducible refine (M3.out _ (by (repeat (first|assumption|exact Below.refl _ _|refine keep_drew ?_|refine keep_alloc ?_ _|refine keep_trans ?_ (by assumption))))).mono ?_);rintro _ o3 ⟨rfl,hbo3⟩;have hko3:Below V8.heap.size V8 o3:=(by (repeat (first|assumption|exact Below.refl _ _|refine keep_drew ?_|refine keep_alloc ?_ _|refine keep_trans ?_ (by assumption))));obtain ⟨xo30,xo31,xo32,xo3l⟩:=c3_of (keepq hko3 FQ0.out);obtain ⟨eo30,eo31,eo32,eo3l⟩:=c3_of (keepq hko3 FQ5.out);obtain ⟨ho30,ho31,ho32,ho3l⟩:=c3_of (keepq hko3 FQ7.out);obtain ⟨jo30,jo31,jo32,jo3l⟩:=c3_of (keepq hko3 FQ9.out);obtain ⟨mo30,mo31,mo32,mo3l⟩:=c3_of (keepq hko3 QU8.out);obtain ⟨qo30,qo31,qo32,qo3l⟩:=c3_of (keepq hko3 QV8.out))|(go_at_call 20;refine (awake4_c _).mono ?_;rintro _ wz ⟨rfl,hbz⟩)|fail);refine ⟨?_,?_⟩;focus (exact ⟨_,below_over (by repeat (first|assumption|exact Below.refl _ _|refine keep_drew ?_|refine keep_alloc ?_ _|refine keep_trans ?_ (by assumption)))⟩)))
  refine wpS_late _ _ _ rfl ?_
  dsimp only[List.map]
  go_wp2_with (first|(go_at_call 89;(with_reducible refine (HR1.out _ (keep_trans HB8.out (by (repeat (first|assumption|exact Below.refl _ _|refine keep_drew ?_|refine keep_alloc ?_ _|refine keep_trans ?_ (by assumption)))))).mono ?_);rintro _ o0 ⟨a9,c9,rfl,hf9,hi9,hbo0⟩;have hko0:Below V8.heap.size V8 o0:=(by (repeat (first|assumption|exact Below.refl _ _|refine keep_drew ?_|refine keep_alloc ?_ _|refine keep_trans ?_ (by assumption))));obtain ⟨xo00,xo01,xo02,xo0l⟩:=c3_of (keepq hko0 FQ0.out);obtain ⟨eo00,eo01,eo02,eo0l⟩:=c3_of (keepq hko0 FQ5.out);obtain ⟨ho00,ho01,ho02,ho0l⟩:=c3_of (keepq hko0 FQ7.out);obtain ⟨jo00,jo01,jo02,jo0l⟩:=c3_of (keepq hko0 FQ9.out);obtain ⟨mo00,mo01,mo02,mo0l⟩:=c3_of (keepq hko0 QU8.out);obtain ⟨qo00,qo01,qo02,qo0l⟩:=c3_of (keepq hko0 QV8.out))|(go_at_call 24;(with_reducible refine (M1.out _ _ _ (by (repeat (first|assumption|exact Below.refl _ _|refine keep_drew ?_|refine keep_alloc ?_ _|refine keep_trans ?_ (by assumption)))) hi9).mono ?_);rintro _ o1 ⟨rfl,hbo1⟩;have hko1:Below V8.heap.size V8 o1:=(by (repeat (first|assumption|exact Below.refl _ _|refine keep_drew ?_|refine keep_alloc ?_ _|refine keep_trans ?_ (by assumption))));obtain ⟨xo10,xo11,xo12,xo1l⟩:=c3_of (keepq hko1 FQ0.out);obtain ⟨eo10,eo11,eo12,eo1l⟩:=c3_of (keepq hko1 FQ5.out);obtain ⟨ho10,ho11,ho12,ho1l⟩:=c3_of (keepq hko1 FQ7.out);obtain ⟨jo10,jo11,jo12,jo1l⟩:=c3_of (keepq hko1 FQ9.out);obtain ⟨mo10,mo11,mo12,mo1l⟩:=c3_of (keepq hko1 QU8.out);obtain ⟨qo10,qo11,qo12,qo1l⟩:=c3_of (keepq hko1 QV8.out))|(go_at_call 24;(with_reducible refine (M2.out _ (by (repeat (first|assumption|exact Below.refl _ _|refine keep_drew ?_|refine keep_alloc ?_ _|refine keep_trans ?_ (by assumption))))).mono ?_);rintro _ o2 ⟨rfl,hbo2⟩;have hko2:Below V8.heap.size V8 o2:=(by (repeat (first|assumption|exact Below.refl _ _|refine keep_drew ?_|refine keep_alloc ?_ _|refine keep_trans ?_ (by assumption))));obtain ⟨xo20,xo21,xo22,xo2l⟩:=c3_of (keepq hko2 FQ0.out);obtain ⟨eo20,eo21,eo22,eo2l⟩:=c3_of (keepq hko2 FQ5.out);obtain ⟨ho20,ho21,ho22,ho2l⟩:=c3_of (keepq hko2 FQ7.out);obtain ⟨jo20,jo21,jo22,jo2l⟩:=c3_of (keepq hko2 FQ9.out);obtain ⟨mo20,mo21,mo22,mo2l⟩:=c3_of (keepq hko2 QU8.out);obtain ⟨qo20,qo21,qo22,qo2l⟩:=c3_of (keepq hko2 QV8.out))|(go_at_call 24;(with_reducible refine (M3.out _ (by (repeat (first|assumption|exact Below.refl _ _|refine keep_drew ?_|refine keep_alloc ?_ _|refine keep_trans ?_ (by assumption))))).mono ?_);rintro _ o3 ⟨rfl,hbo3⟩;have hko3:Below V8.heap.size V8 o3:=(by (repeat (first|assumption|exact Below.refl _ _|refine keep_drew ?_|refine keep_alloc ?_ _|refine keep_trans ?_ (by assumption))));obtain ⟨xo30,xo31,xo32,xo3l⟩:=c3_of (keepq hko3 FQ0.out);obtain ⟨eo30,eo31,eo32,eo3l⟩:=c3_of (keepq hko3 FQ5.out);obtain ⟨ho30,ho31,ho32,ho3l⟩:=c3_of (keepq hko3 FQ7.out);obtain ⟨jo30,jo31,jo32,jo3l⟩:=c3_of (keepq hko3 FQ9.out);obtain ⟨mo30,mo31,mo32,mo3l⟩:=c3_of (keepq hko3 QU8.out);obtain ⟨qo30,qo31,qo32,qo3l⟩:=c3_of (keepq hko3 QV8.out))|(go_at_call 20;refine (awake4_c _).mono ?_;rintro _ wz ⟨rfl,hbz⟩)|fail)
  refine NoPanic.normal ?_
  go_wp2_with fail
  refine bodyPost_ret (v := .bool true) ?_ rfl ⟨rfl,keep_trans HB8.out (show Below V8.heap.size V8 wz by (repeat (first|assumption|exact Below.refl _ _|refine keep_drew ?_|refine keep_alloc ?_ _|refine keep_trans ?_ (by assumption))))⟩
  simp[results,Tryz.f17,go_sem]
theorem lforms_nn (r C:Int) (a:Option Addr) (n c:Nat) (aR:Option Addr) (nR cR:Nat) (aK:Option Addr) (nK cK:Nat) (aM:Option Addr) (nM cM:Nat) (p0 p1 p2:Int) (w:World) (h0:¬300<n) (h1:¬40<nR) (h2:¬40<nK) (h3:¬40<nM) (R1 R2 R3:Int) (k1 k2 k3:Nat) (X1 X2 X3:List Int) (er1 er2 er3:Int) (t1 t2 t3 s3:Int) (S2:t1≠0→t2=t1) (S3:t2≠0→t3=t2) (z1:Nat) (Y1:List Int) (hm1:madeB R1 R1 X1 er1 r r Y1 0=true) (h3:t3≠0) (h4:s3≠0) (hm2:madeB R2 R2 X2 er2 0 0 [] t3=true) (hm3:madeB R3 R3 X3 er3 0 0 [] s3=true)
  (HA:∀W,Below w.heap.size w W→Calls Tryz.prog 22 #[.agg #[.int .i64 r,.int .i64 C,.slice a n c]] W fun e w'=>e = .returned (.int .i64 0)∧Below W.heap.size W w')
  (H1:∀W,Below w.heap.size w W→Calls Tryz.prog 83 #[.agg #[.int .i64 r,.int .i64 C,.slice a n c]] W fun e w'=>∃a2 c2,e = .returned (.tuple #[.agg #[.int .i64 R1,.int .i64 R1,.slice a2 k1 c2],.int .i64 er1])∧IC w' a2 k1 X1∧Below W.heap.size W w')
  (H2:∀W,Below w.heap.size w W→Calls Tryz.prog 84 #[.agg #[.int .i64 r,.int .i64 C,.slice a n c],.slice aR nR cR,.slice aK nK cK,.slice aM nM cM] W fun e w'=>∃a2 c2,e = .returned (.tuple #[.agg #[.int .i64 R2,.int .i64 R2,.slice a2 k2 c2],.int .i64 er2])∧IC w' a2 k2 X2∧Below W.heap.size W w')
  (H3:∀W,Below w.heap.size w W→Calls Tryz.prog 85 #[.agg #[.int .i64 r,.int .i64 C,.slice a n c],.agg #[.int .i64 p0,.int .i64 p1,.int .i64 p2]] W fun e w'=>∃a2 c2,e = .returned (.tuple #[.agg #[.int .i64 R3,.int .i64 R3,.slice a2 k3 c2],.int .i64 er3])∧IC w' a2 k3 X3∧Below W.heap.size W w')
  (P0:∀W,Below w.heap.size w W→Calls Tryz.prog 86 #[.slice aR nR cR,.int .i64 r] W fun e w'=>e = .returned (.int .i64 t1)∧Below W.heap.size W w')
  (P1:t1=0→∀W,Below w.heap.size w W→Calls Tryz.prog 86 #[.slice aK nK cK,.int .i64 r] W fun e w'=>e = .returned (.int .i64 t2)∧Below W.heap.size W w')
  (P2:t2=0→∀W,Below w.heap.size w W→Calls Tryz.prog 86 #[.slice aM nM cM,.int .i64 r] W fun e w'=>e = .returned (.int .i64 t3)∧Below W.heap.size W w')
  (P3:∀W b,IC W (some ⟨b,3,none⟩) 3 [p0,p1,p2]→Calls Tryz.prog 86 #[.slice (some ⟨b,3,none⟩) 3 3,.int .i64 3] W fun e w'=>e = .returned (.int .i64 s3)∧Below W.heap.size W w')
  (HR1:∀W,Below w.heap.size w W→Calls Tryz.prog 89 #[.agg #[.int .i64 r,.int .i64 C,.slice a n c]] W fun e w'=>∃a2 c2,e = .returned (.agg #[.int .i64 r,.int .i64 r,.slice a2 z1 c2])∧(∀b2 o2,a2=some ⟨b2,o2,none⟩→W.heap.size≤b2)∧IC w' a2 z1 Y1∧Below W.heap.size W w')
  : Calls Tryz.prog 17 #[.agg #[.int .i64 r,.int .i64 C,.slice a n c],.agg #[.slice aR nR cR,.slice aK nK cK,.slice aM nM cM,.int .i64 p0,.int .i64 p1,.int .i64 p2]] w fun e w'=>e = .returned (.bool true)∧Below w.heap.size w w':=by
 have hg0:decide ((300:Int)<(n:Int))=false:=decide_eq_false (by omega)
 have hg1:decide ((40:Int)<(nR:Int))=false:=decide_eq_false (by omega)
 have hg2:decide ((40:Int)<(nK:Int))=false:=decide_eq_false (by omega)
 have hg3:decide ((40:Int)<(nM:Int))=false:=decide_eq_false (by omega)
 have e3:(t3==0)=false:=by simpa using h3
 have e4:(s3==0)=false:=by simpa using h4
 clear h3 h4
 have HA:=Lib.hid HA
 have H1:=Lib.hid H1
 have H2:=Lib.hid H2
 have H3:=Lib.hid H3
 have P0:=Lib.hid P0
 have P1:=Lib.hid P1
 have P2:=Lib.hid P2
 have P3:=Lib.hid P3
 have HR1:=Lib.hid HR1
 have hm1:=Lib.hid hm1
 have hm2:=Lib.hid hm2
 have hm3:=Lib.hid hm3
 have S2:=Lib.hid S2
 have S3:=Lib.hid S3
 have e3:=Lib.hid e3
 have e4:=Lib.hid e4
 go_enter Tryz.func17,Tryz.ntmps17
 go_upto_region 1 with fail
 have fsz:((w.alloc (.cells #[.int .i64 r,.int .i64 C,.slice a n c] 24)).alloc (.cells #[.slice aR nR cR,.slice aK nK cK,.slice aM nM cM,.int .i64 p0,.int .i64 p1,.int .i64 p2] 98)).heap.size=w.heap.size+2:=by simp only[World.size_alloc] <;> omega
 have fB:Below w.heap.size w ((w.alloc (.cells #[.int .i64 r,.int .i64 C,.slice a n c] 24)).alloc (.cells #[.slice aR nR cR,.slice aK nK cK,.slice aM nM cM,.int .i64 p0,.int .i64 p1,.int .i64 p2] 98)):=((Below.refl _ _).alloc (Nat.le_refl _) _).alloc (by simp only[World.size_alloc];omega) _
 have fq0:((w.alloc (.cells #[.int .i64 r,.int .i64 C,.slice a n c] 24)).alloc (.cells #[.slice aR nR cR,.slice aK nK cK,.slice aM nM cM,.int .i64 p0,.int .i64 p1,.int .i64 p2] 98)).heap[w.heap.size]?=some (.cells #[.int .i64 r,.int .i64 C,.slice a n c] 24 (0,0)):=by have h:=World.alloc_heap_new w (.cells #[.int .i64 r,.int .i64 C,.slice a n c] 24);exact (Below.heap_alloc _ _ _ (by simp only[World.size_alloc];omega)).trans (h)
 have fq1:((w.alloc (.cells #[.int .i64 r,.int .i64 C,.slice a n c] 24)).alloc (.cells #[.slice aR nR cR,.slice aK nK cK,.slice aM nM cM,.int .i64 p0,.int .i64 p1,.int .i64 p2] 98)).heap[w.heap.size+1]?=some (.cells #[.slice aR nR cR,.slice aK nK cK,.slice aM nM cM,.int .i64 p0,.int .i64 p1,.int .i64 p2] 98 (0,0)):=by have h:=World.alloc_heap_new (w.alloc (.cells #[.int .i64 r,.int .i64 C,.slice a n c] 24)) (.cells #[.slice aR nR cR,.slice aK nK cK,.slice aM nM cM,.int .i64 p0,.int .i64 p1,.int .i64 p2] 98);simp only[World.size_alloc] at h;exact h
 generalize ((w.alloc (.cells #[.int .i64 r,.int .i64 C,.slice a n c] 24)).alloc (.cells #[.slice aR nR cR,.slice aK nK cK,.slice aM nM cM,.int .i64 p0,.int .i64 p1,.int .i64 p2] 98))=W0 at fsz fB fq0 fq1 ⊢
 have Q0:=Lib.hid fq0
 have Q1:=Lib.hid fq1
 have FB:=Lib.hid fB
 obtain ⟨x0,x1,x2,xl⟩:=c3_of fq0
 obtain ⟨y0,y1,y2,y3,y4,y5,yl⟩:=c6_of fq1
 clear fq0 fq1 fsz fB
 go_upto_region 4 with (first|(go_at_call 19;(with_reducible refine (lgreat_c r C a n c 300 _).mono ?_);rintro _ w1 ⟨rfl,hbw1⟩;have hkw1:Below W0.heap.size W0 w1:=(by (repeat (first|assumption|exact Below.refl _ _|refine keep_drew ?_|refine keep_alloc ?_ _|refine keep_trans ?_ (by assumption))));obtain ⟨xw10,xw11,xw12,xw1l⟩:=c3_of (keepq hkw1 Q0.out);obtain ⟨yw10,yw11,yw12,yw13,yw14,yw15,yw1l⟩:=c6_of (keepq hkw1 Q1.out))|(go_at_call 83;(with_reducible refine (H1.out _ (keep_trans FB.out (by (repeat (first|assumption|exact Below.refl _ _|refine keep_drew ?_|refine keep_alloc ?_ _|refine keep_trans ?_ (by assumption)))))).mono ?_);rintro _ u0 ⟨b1,d1,rfl,hi0,hbu0⟩;have hku0:Below W0.heap.size W0 u0:=(by (repeat (first|assumption|exact Below.refl _ _|refine keep_drew ?_|refine keep_alloc ?_ _|refine keep_trans ?_ (by assumption)))))|fail)
 have gsz:(u0.alloc (.cells #[.int .i64 R1,.int .i64 R1,.slice b1 k1 d1] 24)).heap.size=u0.heap.size+1:=by simp only[World.size_alloc]
 have gB:Below u0.heap.size u0 (u0.alloc (.cells #[.int .i64 R1,.int .i64 R1,.slice b1 k1 d1] 24)):=(Below.refl _ _).alloc (Nat.le_refl _) _
 have gq0:(u0.alloc (.cells #[.int .i64 R1,.int .i64 R1,.slice b1 k1 d1] 24)).heap[u0.heap.size]?=some (.cells #[.int .i64 R1,.int .i64 R1,.slice b1 k1 d1] 24 (0,0)):=by have h:=World.alloc_heap_new u0 (.cells #[.int .i64 R1,.int .i64 R1,.slice b1 k1 d1] 24);exact h
 generalize (u0.alloc (.cells #[.int .i64 R1,.int .i64 R1,.slice b1 k1 d1] 24))=V1 at gsz gB gq0 ⊢
 have hkk:=keep_trans hku0 gB
 have NQ0:=Lib.hid (keepq hkk Q0.out)
 have NQ1:=Lib.hid (keepq hkk Q1.out)
 have NB:=Lib.hid (keep_trans FB.out hkk)
 have NQ5:=Lib.hid gq0
 have NI1:=Lib.hid (hi0.mono gB)
 clear gsz gq0 gB hkk hku0 hbu0 hi0 x0 x1 x2 xl y0 y1 y2 y3 y4 y5 yl FB Q1 Q0  xw10 xw11 xw12 xw1l yw10 yw11 yw12 yw13 yw14 yw15 yw1l hkw1 hbw1
 have Q0:=NQ0;clear NQ0
 have Q5:=NQ5;clear NQ5
 have Q1:=NQ1;clear NQ1
 have I1:=NI1;clear NI1
 have HB1:=NB;clear NB
 obtain ⟨x0,x1,x2,xl⟩:=c3_of Q0.out
 obtain ⟨e0,e1,e2,el⟩:=c3_of Q5.out
 obtain ⟨y0,y1,y2,y3,y4,y5,yl⟩:=c6_of Q1.out
 go_upto_region 5 with (first|(go_at_call 84;(with_reducible refine (H2.out _ (keep_trans HB1.out (by (repeat (first|assumption|exact Below.refl _ _|refine keep_drew ?_|refine keep_alloc ?_ _|refine keep_trans ?_ (by assumption)))))).mono ?_);rintro _ u1 ⟨b2,d2,rfl,hi1,hbu1⟩;have hku1:Below V1.heap.size V1 u1:=(by (repeat (first|assumption|exact Below.refl _ _|refine keep_drew ?_|refine keep_alloc ?_ _|refine keep_trans ?_ (by assumption)))))|fail)
 have gsz:(u1.alloc (.cells #[.int .i64 R2,.int .i64 R2,.slice b2 k2 d2] 24)).heap.size=u1.heap.size+1:=by simp only[World.size_alloc]
 have gB:Below u1.heap.size u1 (u1.alloc (.cells #[.int .i64 R2,.int .i64 R2,.slice b2 k2 d2] 24)):=(Below.refl _ _).alloc (Nat.le_refl _) _
 have gq0:(u1.alloc (.cells #[.int .i64 R2,.int .i64 R2,.slice b2 k2 d2] 24)).heap[u1.heap.size]?=some (.cells #[.int .i64 R2,.int .i64 R2,.slice b2 k2 d2] 24 (0,0)):=by have h:=World.alloc_heap_new u1 (.cells #[.int .i64 R2,.int .i64 R2,.slice b2 k2 d2] 24);exact h
 generalize (u1.alloc (.cells #[.int .i64 R2,.int .i64 R2,.slice b2 k2 d2] 24))=V2 at gsz gB gq0 ⊢
 have hkk:=keep_trans hku1 gB
 have NQ0:=Lib.hid (keepq hkk Q0.out)
 have NQ5:=Lib.hid (keepq hkk Q5.out)
 have NQ1:=Lib.hid (keepq hkk Q1.out)
 have NB:=Lib.hid (keep_trans HB1.out hkk)
 have NI1:=Lib.hid (I1.out.mono hkk)
 have NQ7:=Lib.hid gq0
 have NI2:=Lib.hid (hi1.mono gB)
 clear gsz gq0 gB hkk hku1 hbu1 hi1 x0 x1 x2 xl e0 e1 e2 el y0 y1 y2 y3 y4 y5 yl HB1 Q1 Q0 Q5 I1
 have Q0:=NQ0;clear NQ0
 have Q5:=NQ5;clear NQ5
 have Q7:=NQ7;clear NQ7
 have Q1:=NQ1;clear NQ1
 have I1:=NI1;clear NI1
 have I2:=NI2;clear NI2
 have HB2:=NB;clear NB
 obtain ⟨x0,x1,x2,xl⟩:=c3_of Q0.out
 obtain ⟨e0,e1,e2,el⟩:=c3_of Q5.out
 obtain ⟨h0,h1,h2,hl⟩:=c3_of Q7.out
 obtain ⟨y0,y1,y2,y3,y4,y5,yl⟩:=c6_of Q1.out
 go_upto_region 6 with (first|(go_at_call 85;(with_reducible refine (H3.out _ (keep_trans HB2.out (by (repeat (first|assumption|exact Below.refl _ _|refine keep_drew ?_|refine keep_alloc ?_ _|refine keep_trans ?_ (by assumption)))))).mono ?_);rintro _ u2 ⟨b3,d3,rfl,hi2,hbu2⟩;have hku2:Below V2.heap.size V2 u2:=(by (repeat (first|assumption|exact Below.refl _ _|refine keep_drew ?_|refine keep_alloc ?_ _|refine keep_trans ?_ (by assumption)))))|fail)
 have gsz:(u2.alloc (.cells #[.int .i64 R3,.int .i64 R3,.slice b3 k3 d3] 24)).heap.size=u2.heap.size+1:=by simp only[World.size_alloc]
 have gB:Below u2.heap.size u2 (u2.alloc (.cells #[.int .i64 R3,.int .i64 R3,.slice b3 k3 d3] 24)):=(Below.refl _ _).alloc (Nat.le_refl _) _
 have gq0:(u2.alloc (.cells #[.int .i64 R3,.int .i64 R3,.slice b3 k3 d3] 24)).heap[u2.heap.size]?=some (.cells #[.int .i64 R3,.int .i64 R3,.slice b3 k3 d3] 24 (0,0)):=by have h:=World.alloc_heap_new u2 (.cells #[.int .i64 R3,.int .i64 R3,.slice b3 k3 d3] 24);exact h
 generalize (u2.alloc (.cells #[.int .i64 R3,.int .i64 R3,.slice b3 k3 d3] 24))=V3 at gsz gB gq0 ⊢
 have hkk:=keep_trans hku2 gB
 have NQ0:=Lib.hid (keepq hkk Q0.out)
 have NQ5:=Lib.hid (keepq hkk Q5.out)
 have NQ7:=Lib.hid (keepq hkk Q7.out)
 have NQ1:=Lib.hid (keepq hkk Q1.out)
 have NB:=Lib.hid (keep_trans HB2.out hkk)
 have NI1:=Lib.hid (I1.out.mono hkk)
 have NI2:=Lib.hid (I2.out.mono hkk)
 have NQ9:=Lib.hid gq0
 have NI3:=Lib.hid (hi2.mono gB)
 clear gsz gq0 gB hkk hku2 hbu2 hi2 x0 x1 x2 xl e0 e1 e2 el h0 h1 h2 hl y0 y1 y2 y3 y4 y5 yl HB2 Q1 Q0 Q5 Q7 I1 I2
 have Q0:=NQ0;clear NQ0
 have Q5:=NQ5;clear NQ5
 have Q7:=NQ7;clear NQ7
 have Q9:=NQ9;clear NQ9
 have Q1:=NQ1;clear NQ1
 have I1:=NI1;clear NI1
 have I2:=NI2;clear NI2
 have I3:=NI3;clear NI3
 have HB3:=NB;clear NB
 obtain ⟨x0,x1,x2,xl⟩:=c3_of Q0.out
 obtain ⟨e0,e1,e2,el⟩:=c3_of Q5.out
 obtain ⟨h0,h1,h2,hl⟩:=c3_of Q7.out
 obtain ⟨j0,j1,j2,jl⟩:=c3_of Q9.out
 obtain ⟨y0,y1,y2,y3,y4,y5,yl⟩:=c6_of Q1.out
 go_upto_region 11 with (first|(go_at_call 22;(with_reducible refine (HA.out _ (keep_trans HB3.out (by (repeat (first|assumption|exact Below.refl _ _|refine keep_drew ?_|refine keep_alloc ?_ _|refine keep_trans ?_ (by assumption)))))).mono ?_);rintro _ v0 ⟨rfl,hbv0⟩;have hkv0:Below V3.heap.size V3 v0:=(by (repeat (first|assumption|exact Below.refl _ _|refine keep_drew ?_|refine keep_alloc ?_ _|refine keep_trans ?_ (by assumption))));obtain ⟨xv00,xv01,xv02,xv0l⟩:=c3_of (keepq hkv0 Q0.out);obtain ⟨ev00,ev01,ev02,ev0l⟩:=c3_of (keepq hkv0 Q5.out);obtain ⟨hv00,hv01,hv02,hv0l⟩:=c3_of (keepq hkv0 Q7.out);obtain ⟨jv00,jv01,jv02,jv0l⟩:=c3_of (keepq hkv0 Q9.out);obtain ⟨yv00,yv01,yv02,yv03,yv04,yv05,yv0l⟩:=c6_of (keepq hkv0 Q1.out))|fail)
 have hq9:=World.alloc_heap_new v0 (.cells #[.slice aR nR cR,.slice aK nK cK,.slice aM nM cM] 22)
 have hb9:Below V3.heap.size V3 (v0.alloc (.cells #[.slice aR nR cR,.slice aK nK cK,.slice aM nM cM] 22)):=keep_alloc hkv0 _
 have hk9:v0.heap.size<(v0.alloc (.cells #[.slice aR nR cR,.slice aK nK cK,.slice aM nM cM] 22)).heap.size:=q_lt hq9
 generalize (v0.alloc (.cells #[.slice aR nR cR,.slice aK nK cK,.slice aM nM cM] 22))=V4 at hq9 hb9 hk9 ⊢
 have Q9a:=Lib.hid hq9
 have HB4:=Lib.hid (keep_trans HB3.out hb9)
 have HV4:=Lib.hid hb9
 clear x0 x1 x2 xl e0 e1 e2 el h0 h1 h2 hl j0 j1 j2 jl y0 y1 y2 y3 y4 y5 yl hbv0 hkv0 xv00 xv01 xv02 xv0l ev00 ev01 ev02 ev0l hv00 hv01 hv02 hv0l jv00 jv01 jv02 jv0l yv00 yv01 yv02 yv03 yv04 yv05 yv0l hq9 hb9
 go_loopw [12,14,96] (fun s12 _ s96 wr=>∃(k:Nat) (t:Int),k≤3∧s96 = .int .i64 (k:Int)∧s12 = .int .i64 t∧(k=0→t=0)∧(k=1→t=t1)∧(k=2→t=t2)∧(k=3→t=t3)∧Hid (Below V4.heap.size V4 wr)) (fun _ _ s96 _=>3 - (intOf s96).toNat)
 case atStart=>exact ⟨0,0,by omega,rfl,rfl,fun _=>rfl,fun h=>absurd h (by decide),fun h=>absurd h (by decide),fun h=>absurd h (by decide),Below.refl _ _⟩
 case round =>
  obtain ⟨k,t,hk,rfl,rfl,T0,T1,T2,T3,hbr⟩:=hrel
  have hq:=keepq hbr.out Q9a.out
  have hqz:=q_lt hq
  have hb4r:=keep_trans HV4.out hbr.out
  have N0:=Lib.hid (keepq hb4r Q0.out)
  obtain ⟨x0,x1,x2,xl⟩:=c3_of N0.out
  clear hb4r
  by_cases ek0:k=0
  ·subst ek0
   have et:=(T0 rfl).symm
   subst et
   clear T0 T1 T2 T3
   have g0:=q_cell hq 0
   go_wp2_with (first|(go_at_call 86;(with_reducible refine (P0.out _ (keep_trans (keep_trans HB4.out hbr.out) (by (repeat (first|assumption|exact Below.refl _ _|refine keep_drew ?_|refine keep_alloc ?_ _|refine keep_trans ?_ (by assumption)))))).mono ?_);rintro _ w1 ⟨rfl,hbw1⟩)|fail)
   go_roundw
   case rel=>exact ⟨1,_,by omega,by go_num,rfl,fun h=>absurd h (by decide),fun _=>rfl,fun h=>absurd h (by decide),fun h=>absurd h (by decide),keep_trans hbr.out (show Below wr.heap.size wr w1 by (repeat (first|assumption|exact Below.refl _ _|refine keep_drew ?_|refine keep_alloc ?_ _|refine keep_trans ?_ (by assumption))))⟩
   case measure=>simp[intOf]
  by_cases ek1:k=1
  ·subst ek1
   have et:=(T1 rfl).symm
   subst et
   clear T0 T1 T2 T3
   have g0:=q_cell hq 1
   by_cases hz:t1=0
   ·have ez:(t1==0)=true:=by simpa using hz
    have hz:=Lib.hid hz
    go_wp2_with (first|(go_at_call 86;(with_reducible refine (P1.out hz.out _ (keep_trans (keep_trans HB4.out hbr.out) (by (repeat (first|assumption|exact Below.refl _ _|refine keep_drew ?_|refine keep_alloc ?_ _|refine keep_trans ?_ (by assumption)))))).mono ?_);rintro _ w1 ⟨rfl,hbw1⟩)|fail)
    go_roundw
    case rel=>exact ⟨2,_,by omega,by go_num,rfl,fun h=>absurd h (by decide),fun h=>absurd h (by decide),fun _=>rfl,fun h=>absurd h (by decide),keep_trans hbr.out (show Below wr.heap.size wr w1 by (repeat (first|assumption|exact Below.refl _ _|refine keep_drew ?_|refine keep_alloc ?_ _|refine keep_trans ?_ (by assumption))))⟩
    case measure=>simp[intOf]
   ·have ez:(t1==0)=false:=by simpa using hz
    have hz:=Lib.hid hz
    go_wp2_with fail
    go_roundw
    case rel=>exact ⟨2,_,by omega,by go_num,rfl,fun h=>absurd h (by decide),fun h=>absurd h (by decide),fun _=>(S2.out hz.out).symm,fun h=>absurd h (by decide),hbr.out⟩
    case measure=>simp[intOf]
  by_cases ek2:k=2
  ·subst ek2
   have et:=(T2 rfl).symm
   subst et
   clear T0 T1 T2 T3
   have g0:=q_cell hq 2
   by_cases hz:t2=0
   ·have ez:(t2==0)=true:=by simpa using hz
    have hz:=Lib.hid hz
    go_wp2_with (first|(go_at_call 86;(with_reducible refine (P2.out hz.out _ (keep_trans (keep_trans HB4.out hbr.out) (by (repeat (first|assumption|exact Below.refl _ _|refine keep_drew ?_|refine keep_alloc ?_ _|refine keep_trans ?_ (by assumption)))))).mono ?_);rintro _ w1 ⟨rfl,hbw1⟩)|fail)
    go_roundw
    case rel=>exact ⟨3,_,by omega,by go_num,rfl,fun h=>absurd h (by decide),fun h=>absurd h (by decide),fun h=>absurd h (by decide),fun _=>rfl,keep_trans hbr.out (show Below wr.heap.size wr w1 by (repeat (first|assumption|exact Below.refl _ _|refine keep_drew ?_|refine keep_alloc ?_ _|refine keep_trans ?_ (by assumption))))⟩
    case measure=>simp[intOf]
   ·have ez:(t2==0)=false:=by simpa using hz
    have hz:=Lib.hid hz
    go_wp2_with fail
    go_roundw
    case rel=>exact ⟨3,_,by omega,by go_num,rfl,fun h=>absurd h (by decide),fun h=>absurd h (by decide),fun h=>absurd h (by decide),fun _=>(S3.out hz.out).symm,hbr.out⟩
    case measure=>simp[intOf]
  have ek:k=3:=by omega
  subst ek
  have et:=(T3 rfl).symm
  subst et
  clear T0 T1 T2 T3
  have HV5:=Lib.hid (keep_trans HV4.out hbr.out)
  have HB5:=Lib.hid (keep_trans HB3.out HV5.out)
  clear hq hqz hbr x0 x1 x2 xl N0 hk ek0 ek1 ek2
  have NQ0:=Lib.hid (keepq HV5.out Q0.out)
  have NQ5:=Lib.hid (keepq HV5.out Q5.out)
  have NQ7:=Lib.hid (keepq HV5.out Q7.out)
  have NQ9:=Lib.hid (keepq HV5.out Q9.out)
  have NQ1:=Lib.hid (keepq HV5.out Q1.out)
  have NI1:=Lib.hid (I1.out.mono HV5.out)
  have NI2:=Lib.hid (I2.out.mono HV5.out)
  have NI3:=Lib.hid (I3.out.mono HV5.out)
  obtain ⟨x0,x1,x2,xl⟩:=c3_of NQ0.out
  obtain ⟨e0,e1,e2,el⟩:=c3_of NQ5.out
  obtain ⟨h0,h1,h2,hl⟩:=c3_of NQ7.out
  obtain ⟨j0,j1,j2,jl⟩:=c3_of NQ9.out
  obtain ⟨y0,y1,y2,y3,y4,y5,yl⟩:=c6_of NQ1.out
  go_upto_region 18 with (first|(go_at_call 86;(with_reducible refine (P3.out _ _ ((ic_box6 NQ1.out).mono (by (repeat (first|assumption|exact Below.refl _ _|refine keep_drew ?_|refine keep_alloc ?_ _|refine keep_trans ?_ (by assumption)))))).mono ?_);rintro _ s0 ⟨rfl,hbs0⟩;have hks0:Below wr.heap.size wr s0:=(by (repeat (first|assumption|exact Below.refl _ _|refine keep_drew ?_|refine keep_alloc ?_ _|refine keep_trans ?_ (by assumption)))))|fail)
  have gsz:((s0.alloc (.cells #[.int .i64 0,.int .i64 0,.slice none 0 0] 24)).alloc (.cells #[.int .i64 0,.int .i64 0,.slice none 0 0] 24)).heap.size=s0.heap.size+2:=by simp only[World.size_alloc] <;> omega
  have gB:Below s0.heap.size s0 ((s0.alloc (.cells #[.int .i64 0,.int .i64 0,.slice none 0 0] 24)).alloc (.cells #[.int .i64 0,.int .i64 0,.slice none 0 0] 24)):=((Below.refl _ _).alloc (Nat.le_refl _) _).alloc (by simp only[World.size_alloc];omega) _
  have gq0:((s0.alloc (.cells #[.int .i64 0,.int .i64 0,.slice none 0 0] 24)).alloc (.cells #[.int .i64 0,.int .i64 0,.slice none 0 0] 24)).heap[s0.heap.size]?=some (.cells #[.int .i64 0,.int .i64 0,.slice none 0 0] 24 (0,0)):=by have h:=World.alloc_heap_new s0 (.cells #[.int .i64 0,.int .i64 0,.slice none 0 0] 24);exact (Below.heap_alloc _ _ _ (by simp only[World.size_alloc];omega)).trans (h)
  have gq1:((s0.alloc (.cells #[.int .i64 0,.int .i64 0,.slice none 0 0] 24)).alloc (.cells #[.int .i64 0,.int .i64 0,.slice none 0 0] 24)).heap[s0.heap.size+1]?=some (.cells #[.int .i64 0,.int .i64 0,.slice none 0 0] 24 (0,0)):=by have h:=World.alloc_heap_new (s0.alloc (.cells #[.int .i64 0,.int .i64 0,.slice none 0 0] 24)) (.cells #[.int .i64 0,.int .i64 0,.slice none 0 0] 24);simp only[World.size_alloc] at h;exact h
  generalize ((s0.alloc (.cells #[.int .i64 0,.int .i64 0,.slice none 0 0] 24)).alloc (.cells #[.int .i64 0,.int .i64 0,.slice none 0 0] 24))=V6 at gsz gB gq0 gq1 ⊢
  have HV6:=Lib.hid (keep_trans hks0 gB)
  have HS6:Hid (wr.heap.size≤s0.heap.size):=hks0.size
  have HS7:Hid (V6.heap.size=s0.heap.size+2):=gsz
  have QU:=Lib.hid gq0
  have QV:=Lib.hid gq1
  clear x0 x1 x2 xl e0 e1 e2 el h0 h1 h2 hl j0 j1 j2 jl y0 y1 y2 y3 y4 y5 yl gsz gq0 gq1 gB hbs0 hks0
  have HV7:=HV6
  have QU7:=QU
  have QV7:=QV
  have IU7:Hid (IC V6 none 0 []):=⟨⟨rfl,by omega⟩,fun k hk=>absurd hk (by omega)⟩
  have HN7:Hid (∀b2 off,(none:Option Addr)=some ⟨b2,off,none⟩→b2≠s0.heap.size+1):=fun b o e=>by cases e
  have HZ7:Hid (s0.heap.size+2≤V6.heap.size):=by unfold Hid;rw[HS7.out];omega
  go_upto_region 22 with fail
  have HV8:=HV7
  have QU8:=QU7
  have QV8:=QV7
  have IU8:=IU7
  have IV8:Hid (IC V6 none 0 []):=⟨⟨rfl,by omega⟩,fun k hk=>absurd hk (by omega)⟩
  have FQ0:=Lib.hid (keepq HV8.out NQ0.out)
  have FQ5:=Lib.hid (keepq HV8.out NQ5.out)
  have FQ7:=Lib.hid (keepq HV8.out NQ7.out)
  have FQ9:=Lib.hid (keepq HV8.out NQ9.out)
  obtain ⟨x0,x1,x2,xl⟩:=c3_of FQ0.out
  obtain ⟨e0,e1,e2,el⟩:=c3_of FQ5.out
  obtain ⟨h0,h1,h2,hl⟩:=c3_of FQ7.out
  obtain ⟨j0,j1,j2,jl⟩:=c3_of FQ9.out
  obtain ⟨m0,m1,m2,ml⟩:=c3_of QU8.out
  obtain ⟨q0,q1,q2,ql⟩:=c3_of QV8.out
  have HB8:=Lib.hid (keep_trans HB5.out HV8.out)
  have FI1:=Lib.hid (NI1.out.mono HV8.out)
  have FI2:=Lib.hid (NI2.out.mono HV8.out)
  have FI3:=Lib.hid (NI3.out.mono HV8.out)
  have M1:=Lib.hid (fun W a9 c9 (hb:Below V6.heap.size V6 W) (hi:IC W a9 z1 Y1)=>lmade_v R1 R1 b1 k1 d1 X1 er1 r r a9 z1 c9 Y1 0 W true hm1.out (FI1.out.mono hb) hi)
  have M2:=Lib.hid (fun W (hb:Below V6.heap.size V6 W)=>lmade_v R2 R2 b2 k2 d2 X2 er2 0 0 none 0 0 [] t3 W true hm2.out (FI2.out.mono hb) (IU8.out.mono hb))
  have M3:=Lib.hid (fun W (hb:Below V6.heap.size V6 W)=>lmade_v R3 R3 b3 k3 d3 X3 er3 0 0 none 0 0 [] s3 W true hm3.out (FI3.out.mono hb) (IV8.out.mono hb))
  refine wp_region_S (fun w'=>∃u,w'=over (V6) u) [22] [(0,0),(0,1),(0,2),(1,3),(1,4),(0,5),(0,6),(0,7),(0,8),(0,9),(1,10),(0,11),(0,12),(0,13),(0,14),(0,15),(0,16),(1,17),(0,18),(0,19),(1,20),(0,21),(2,22)] (by kernel_rfl) (by kernel_rfl) (by exact ⟨_,below_over (by repeat (first|assumption|exact Below.refl _ _|refine keep_drew ?_|refine keep_alloc ?_ _|refine keep_trans ?_ (by assumption)))⟩) ?_
  dsimp only[pickOps,nthOp]
  repeat (first|(refine wpS_skip rfl (fun K hK=>?_);go_big_quiet_op;refine hK _ ?_;clear hK K)|(refine wpS_quiet rfl rfl (fun K hK=>?_);go_big_quiet_op;refine hK _ ?_;clear hK K)|(refine wpS_loud ?_;go_wp2_with (first|(go_at_call 89;(with_reducible refine (HR1.out _ (keep_trans HB8.out (by (repeat (first|assumption|exact Below.refl _ _|refine keep_drew ?_|refine keep_alloc ?_ _|refine keep_trans ?_ (by assumption)))))).mono ?_);rintro _ o0 ⟨a9,c9,rfl,hf9,hi9,hbo0⟩;have hko0:Below V6.heap.size V6 o0:=(by (repeat (first|assumption|exact Below.refl _ _|refine keep_drew ?_|refine keep_alloc ?_ _|refine keep_trans ?_ (by assumption))));obtain ⟨xo00,xo01,xo02,xo0l⟩:=c3_of (keepq hko0 FQ0.out);obtain ⟨eo00,eo01,eo02,eo0l⟩:=c3_of (keepq hko0 FQ5.out);obtain ⟨ho00,ho01,ho02,ho0l⟩:=c3_of (keepq hko0 FQ7.out);obtain ⟨jo00,jo01,jo02,jo0l⟩:=c3_of (keepq hko0 FQ9.out);obtain ⟨mo00,mo01,mo02,mo0l⟩:=c3_of (keepq hko0 QU8.out);obtain ⟨qo00,qo01,qo02,qo0l⟩:=c3_of (keepq hko0 QV8.out))|(go_at_call 24;(with_reducible refine (M1.out _ _ _ (by (repeat (first|assumption|exact Below.refl _ _|refine keep_drew ?_|refine keep_alloc ?_ _|refine keep_trans ?_ (by assumption)))) hi9).mono ?_);rintro _ o1 ⟨rfl,hbo1⟩;have hko1:Below V6.heap.size V6 o1:=(by (repeat (first|assumption|exact Below.refl _ _|refine keep_drew ?_|refine keep_alloc ?_ _|refine keep_trans ?_ (by assumption))));obtain ⟨xo10,xo11,xo12,xo1l⟩:=c3_of (keepq hko1 FQ0.out);obtain ⟨eo10,eo11,eo12,eo1l⟩:=c3_of (keepq hko1 FQ5.out);obtain ⟨ho10,ho11,ho12,ho1l⟩:=c3_of (keepq hko1 FQ7.out);obtain ⟨jo10,jo11,jo12,jo1l⟩:=c3_of (keepq hko1 FQ9.out);obtain ⟨mo10,mo11,mo12,mo1l⟩:=c3_of (keepq hko1 QU8.out);obtain ⟨qo10,qo11,qo12,qo1l⟩:=c3_of (keepq hko1 QV8.out))|(go_at_call 24;(with_reducible refine (M2.out _ (by (repeat (first|assumption|exact Below.refl _ _|refine keep_drew ?_|refine keep_alloc ?_ _|refine keep_trans ?_ (by assumption))))).mono ?_);rintro _ o2 ⟨rfl,hbo2⟩;have hko2:Below V6.heap.size V6 o2:=(by (repeat (first|assumption|exact Below.refl _ _|refine keep_drew ?_|refine keep_alloc ?_ _|refine keep_trans ?_ (by assumption))));obtain ⟨xo20,xo21,xo22,xo2l⟩:=c3_of (keepq hko2 FQ0.out);obtain ⟨eo20,eo21,eo22,eo2l⟩:=c3_of (keepq hko2 FQ5.out);obtain ⟨ho20,ho21,ho22,ho2l⟩:=c3_of (keepq hko2 FQ7.out);obtain ⟨jo20,jo21,jo22,jo2l⟩:=c3_of (keepq hko2 FQ9.out);obtain ⟨mo20,mo21,mo22,mo2l⟩:=c3_of (keepq hko2 QU8.out);obtain ⟨qo20,qo21,qo22,qo2l⟩:=c3_of (keepq hko2 QV8.out))|(go_at_call 24;(with_reducible refine (M3.out _ (by (repeat (first|assumption|exact Below.refl _ _|refine keep_drew ?_|refine keep_alloc ?_ _|refine keep_trans ?_ (by assumption))))).mono ?_);rintro _ o3 ⟨rfl,hbo3⟩;have hko3:Below V6.heap.size V6 o3:=(by (repeat (first|assumption|exact Below.refl _ _|refine keep_drew ?_|refine keep_alloc ?_ _|refine keep_trans ?_ (by assumption))));obtain ⟨xo30,xo31,xo32,xo3l⟩:=c3_of (keepq hko3 FQ0.out);obtain ⟨eo30,eo31,eo32,eo3l⟩:=c3_of (keepq hko3 FQ5.out);obtain ⟨ho30,ho31,ho32,ho3l⟩:=c3_of (keepq hko3 FQ7.out);obtain ⟨jo30,jo31,jo32,jo3l⟩:=c3_of (keepq hko3 FQ9.out);obtain ⟨mo30,mo31,mo32,mo3l⟩:=c3_of (keepq hko3 QU8.out);obtain ⟨qo30,qo31,qo32,qo3l⟩:=c3_of (keepq hko3 QV8.out))|(go_at_call 20;refine (awake4_c _).mono ?_;rintro _ wz ⟨rfl,hbz⟩)|fail);refine ⟨?_,?_⟩;focus (exact ⟨_,below_over (by repeat (first|assumption|exact Below.refl _ _|refine keep_drew ?_|refine keep_alloc ?_ _|refine keep_trans ?_ (by assumption)))⟩)))
  refine wpS_late _ _ _ rfl ?_
  dsimp only[List.map]
  go_wp2_with (first|(go_at_call 89;(with_reducible refine (HR1.out _ (keep_trans HB8.out (by (repeat (first|assumption|exact Below.refl _ _|refine keep_drew ?_|refine keep_alloc ?_ _|refine keep_trans ?_ (by assumption)))))).mono ?_);rintro _ o0 ⟨a9,c9,rfl,hf9,hi9,hbo0⟩;have hko0:Below V6.heap.size V6 o0:=(by (repeat (first|assumption|exact Below.refl _ _|refine keep_drew ?_|refine keep_alloc ?_ _|refine keep_trans ?_ (by assumption))));obtain ⟨xo00,xo01,xo02,xo0l⟩:=c3_of (keepq hko0 FQ0.out);obtain ⟨eo00,eo01,eo02,eo0l⟩:=c3_of (keepq hko0 FQ5.out);obtain ⟨ho00,ho01,ho02,ho0l⟩:=c3_of (keepq hko0 FQ7.out);obtain ⟨jo00,jo01,jo02,jo0l⟩:=c3_of (keepq hko0 FQ9.out);obtain ⟨mo00,mo01,mo02,mo0l⟩:=c3_of (keepq hko0 QU8.out);obtain ⟨qo00,qo01,qo02,qo0l⟩:=c3_of (keepq hko0 QV8.out))|(go_at_call 24;(with_reducible refine (M1.out _ _ _ (by (repeat (first|assumption|exact Below.refl _ _|refine keep_drew ?_|refine keep_alloc ?_ _|refine keep_trans ?_ (by assumption)))) hi9).mono ?_);rintro _ o1 ⟨rfl,hbo1⟩;have hko1:Below V6.heap.size V6 o1:=(by (repeat (first|assumption|exact Below.refl _ _|refine keep_drew ?_|refine keep_alloc ?_ _|refine keep_trans ?_ (by assumption))));obtain ⟨xo10,xo11,xo12,xo1l⟩:=c3_of (keepq hko1 FQ0.out);obtain ⟨eo10,eo11,eo12,eo1l⟩:=c3_of (keepq hko1 FQ5.out);obtain ⟨ho10,ho11,ho12,ho1l⟩:=c3_of (keepq hko1 FQ7.out);obtain ⟨jo10,jo11,jo12,jo1l⟩:=c3_of (keepq hko1 FQ9.out);obtain ⟨mo10,mo11,mo12,mo1l⟩:=c3_of (keepq hko1 QU8.out);obtain ⟨qo10,qo11,qo12,qo1l⟩:=c3_of (keepq hko1 QV8.out))|(go_at_call 24;(with_reducible refine (M2.out _ (by (repeat (first|assumption|exact Below.refl _ _|refine keep_drew ?_|refine keep_alloc ?_ _|refine keep_trans ?_ (by assumption))))).mono ?_);rintro _ o2 ⟨rfl,hbo2⟩;have hko2:Below V6.heap.size V6 o2:=(by (repeat (first|assumption|exact Below.refl _ _|refine keep_drew ?_|refine keep_alloc ?_ _|refine keep_trans ?_ (by assumption))));obtain ⟨xo20,xo21,xo22,xo2l⟩:=c3_of (keepq hko2 FQ0.out);obtain ⟨eo20,eo21,eo22,eo2l⟩:=c3_of (keepq hko2 FQ5.out);obtain ⟨ho20,ho21,ho22,ho2l⟩:=c3_of (keepq hko2 FQ7.out);obtain ⟨jo20,jo21,jo22,jo2l⟩:=c3_of (keepq hko2 FQ9.out);obtain ⟨mo20,mo21,mo22,mo2l⟩:=c3_of (keepq hko2 QU8.out);obtain ⟨qo20,qo21,qo22,qo2l⟩:=c3_of (keepq hko2 QV8.out))|(go_at_call 24;(with_reducible refine (M3.out _ (by (repeat (first|assumption|exact Below.refl _ _|refine keep_drew ?_|refine keep_alloc ?_ _|refine keep_trans ?_ (by assumption))))).mono ?_);rintro _ o3 ⟨rfl,hbo3⟩;have hko3:Below V6.heap.size V6 o3:=(by (repeat (first|assumption|exact Below.refl _ _|refine keep_drew ?_|refine keep_alloc ?_ _|refine keep_trans ?_ (by assumption))));obtain ⟨xo30,xo31,xo32,xo3l⟩:=c3_of (keepq hko3 FQ0.out);obtain ⟨eo30,eo31,eo32,eo3l⟩:=c3_of (keepq hko3 FQ5.out);obtain ⟨ho30,ho31,ho32,ho3l⟩:=c3_of (keepq hko3 FQ7.out);obtain ⟨jo30,jo31,jo32,jo3l⟩:=c3_of (keepq hko3 FQ9.out);obtain ⟨mo30,mo31,mo32,mo3l⟩:=c3_of (keepq hko3 QU8.out);obtain ⟨qo30,qo31,qo32,qo3l⟩:=c3_of (keepq hko3 QV8.out))|(go_at_call 20;refine (awake4_c _).mono ?_;rintro _ wz ⟨rfl,hbz⟩)|fail)
  refine NoPanic.normal ?_
  go_wp2_with fail
  refine bodyPost_ret (v := .bool true) ?_ rfl ⟨rfl,keep_trans HB8.out (show Below V6.heap.size V6 wz by (repeat (first|assumption|exact Below.refl _ _|refine keep_drew ?_|refine keep_alloc ?_ _|refine keep_trans ?_ (by assumption))))⟩
  simp[results,Tryz.f17,go_sem]
end
end Go.Proofs.YtmfpdakaeagdpaaGreat
