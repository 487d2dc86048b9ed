/- Texts J141 to J141 of this proof, in one file. -/
import Derived.Test.YtmfpdakaeagdpaaGreatW01
import Derived.Test.YtmfpdakaeagdpaaGreatW02
import Derived.Test.YtmfpdakaeagdpaaGreatW03
import Derived.Test.YtmfpdakaeagdpaaGreatW04
import Derived.Test.YtmfpdakaeagdpaaGreatW05
import Derived.Test.YtmfpdakaeagdpaaGreatW06
import Derived.Test.YtmfpdakaeagdpaaGreatW07
import Derived.Test.YtmfpdakaeagdpaaGreatW08
import Derived.Test.YtmfpdakaeagdpaaGreatW09
import Derived.Test.YtmfpdakaeagdpaaGreatW10
import Derived.Test.YtmfpdakaeagdpaaGreatW11
import Derived.Test.YtmfpdakaeagdpaaGreatW12
import Derived.Test.YtmfpdakaeagdpaaGreatW13
import Derived.Test.YtmfpdakaeagdpaaGreatW14
import Derived.Test.YtmfpdakaeagdpaaGreatW15
import Derived.Test.YtmfpdakaeagdpaaGreatW16
import Derived.Test.YtmfpdakaeagdpaaGreatW17
import Derived.Test.YtmfpdakaeagdpaaGreatW18
import Derived.Test.YtmfpdakaeagdpaaGreatW19
import Derived.Test.YtmfpdakaeagdpaaGreatW20
import Derived.Test.YtmfpdakaeagdpaaGreatW21
import Derived.Test.YtmfpdakaeagdpaaGreatW22
import Derived.Test.YtmfpdakaeagdpaaGreatW23
import Derived.Test.YtmfpdakaeagdpaaGreatW24
import Derived.Test.YtmfpdakaeagdpaaGreatW25
import Derived.Test.YtmfpdakaeagdpaaGreatW26
import Derived.Test.YtmfpdakaeagdpaaGreatW27
import Derived.Test.YtmfpdakaeagdpaaGreatX27n01
import Derived.Test.YtmfpdakaeagdpaaGreatX27n02
import Derived.Test.YtmfpdakaeagdpaaGreatX27n03
import Derived.Below
import Derived.BigFrame
import Derived.BigQuiet
import Derived.Deep.CutBlock
import Derived.Deep.CutRange
import Derived.Deep.LoopGhost
import Derived.Deep.Quiet
import Derived.Deep.RegionHeld3
import Derived.DeepKeys4
import Derived.KernelRfl
import Derived.Laws.BitsAllLaws
import Derived.Laws.EntriesVeiled
import Derived.Lib.AppendZeros
import Derived.Lib.Hide
import Derived.Lib.SlKeysI
import Derived.Lib.SliceRun
import Derived.LoopIn
import Derived.LoopNIn
import Derived.Maps.AppendAt
import Derived.Maps.OwnIn
import Derived.Maps.OwnSet
import Derived.OneCell
import Derived.OrdersHeld
import Derived.OrdersIn
import Derived.OwnWalkIn
import Derived.RangeFuncBound
import Derived.RangeFuncBox
import Derived.RangeFuncCalls
import Derived.RangeFuncLeaves
import Derived.RangeFuncNested
import Derived.RangeFuncWrites
import Derived.Shelf.Abstract
import Derived.Shelf.SortM.Plain
import Derived.Still
import Derived.TacticsIn
import Derived.TacticsInMore
import Derived.Test.YtmfpdakaeagdpaaGreatProg
import Derived.WalkKit
import Derived.WalkLawsBesides
import Derived.WalkSpells
import Derived.WideKeyPair
namespace Go.Proofs.YtmfpdakaeagdpaaGreat
set_option maxRecDepth 100000
set_option maxHeartbeats 16000000
section
open Go Go.RowKit
attribute [local go_sem] over_cell
attribute [local go_sem] Oper.semAt_some
theorem lprod_g0 (r C:Int) (a:Option Addr) (n c:Nat) (r2 C2:Int) (a2:Option Addr) (n2 c2:Nat) (r3 C3:Int) (a3:Option Addr) (n3 c3:Nat) (w:World) (h0:16<n)
  : Calls Tryz.prog 13 #[.agg #[.int .i64 r,.int .i64 C,.slice a n c],.agg #[.int .i64 r2,.int .i64 C2,.slice a2 n2 c2],.agg #[.int .i64 r3,.int .i64 C3,.slice a3 n3 c3]] w fun e w'=>e = .returned (.bool true)∧Below w.heap.size w w':=by
 have hg0:decide ((16:Int)<(n:Int))=true:=decide_eq_true (by omega)
 go_enter Tryz.func13,Tryz.ntmps13
 go_upto_region 1 with fail
 have fsz:(((w.alloc (.cells #[.int .i64 r,.int .i64 C,.slice a n c] 24)).alloc (.cells #[.int .i64 r2,.int .i64 C2,.slice a2 n2 c2] 24)).alloc (.cells #[.int .i64 r3,.int .i64 C3,.slice a3 n3 c3] 24)).heap.size=w.heap.size+3:=by simp only[World.size_alloc] <;> omega
 have fB:Below w.heap.size w (((w.alloc (.cells #[.int .i64 r,.int .i64 C,.slice a n c] 24)).alloc (.cells #[.int .i64 r2,.int .i64 C2,.slice a2 n2 c2] 24)).alloc (.cells #[.int .i64 r3,.int .i64 C3,.slice a3 n3 c3] 24)):=(((Below.refl _ _).alloc (Nat.le_refl _) _).alloc (by simp only[World.size_alloc];omega) _).alloc (by simp only[World.size_alloc];omega) _
 have fq0:(((w.alloc (.cells #[.int .i64 r,.int .i64 C,.slice a n c] 24)).alloc (.cells #[.int .i64 r2,.int .i64 C2,.slice a2 n2 c2] 24)).alloc (.cells #[.int .i64 r3,.int .i64 C3,.slice a3 n3 c3] 24)).heap[w.heap.size]?=some (.cells #[.int .i64 r,.int .i64 C,.slice a n c] 24 (0,0)):=by have h:=World.alloc_heap_new w (.cells #[.int .i64 r,.int .i64 C,.slice a n c] 24);exact (Below.heap_alloc _ _ _ (by simp only[World.size_alloc];omega)).trans ((Below.heap_alloc _ _ _ (by simp only[World.size_alloc];omega)).trans (h))
 have fq1:(((w.alloc (.cells #[.int .i64 r,.int .i64 C,.slice a n c] 24)).alloc (.cells #[.int .i64 r2,.int .i64 C2,.slice a2 n2 c2] 24)).alloc (.cells #[.int .i64 r3,.int .i64 C3,.slice a3 n3 c3] 24)).heap[w.heap.size+1]?=some (.cells #[.int .i64 r2,.int .i64 C2,.slice a2 n2 c2] 24 (0,0)):=by have h:=World.alloc_heap_new (w.alloc (.cells #[.int .i64 r,.int .i64 C,.slice a n c] 24)) (.cells #[.int .i64 r2,.int .i64 C2,.slice a2 n2 c2] 24);simp only[World.size_alloc] at h;exact (Below.heap_alloc _ _ _ (by simp only[World.size_alloc];omega)).trans (h)
 have fq2:(((w.alloc (.cells #[.int .i64 r,.int .i64 C,.slice a n c] 24)).alloc (.cells #[.int .i64 r2,.int .i64 C2,.slice a2 n2 c2] 24)).alloc (.cells #[.int .i64 r3,.int .i64 C3,.slice a3 n3 c3] 24)).heap[w.heap.size+1+1]?=some (.cells #[.int .i64 r3,.int .i64 C3,.slice a3 n3 c3] 24 (0,0)):=by have h:=World.alloc_heap_new ((w.alloc (.cells #[.int .i64 r,.int .i64 C,.slice a n c] 24)).alloc (.cells #[.int .i64 r2,.int .i64 C2,.slice a2 n2 c2] 24)) (.cells #[.int .i64 r3,.int .i64 C3,.slice a3 n3 c3] 24);simp only[World.size_alloc] at h;exact h
 generalize (((w.alloc (.cells #[.int .i64 r,.int .i64 C,.slice a n c] 24)).alloc (.cells #[.int .i64 r2,.int .i64 C2,.slice a2 n2 c2] 24)).alloc (.cells #[.int .i64 r3,.int .i64 C3,.slice a3 n3 c3] 24))=W0 at fsz fB fq0 fq1 fq2 ⊢
 have Q0:=Lib.hid fq0
 have Q1:=Lib.hid fq1
 have Q2:=Lib.hid fq2
 have FB:=Lib.hid fB
 obtain ⟨x0,x1,x2,xl⟩:=c3_of fq0
 obtain ⟨y0,y1,y2,yl⟩:=c3_of fq1
 obtain ⟨z0,z1,z2,zl⟩:=c3_of fq2
 clear fq0 fq1 fq2 fsz fB
 go_upto_region 2 with fail
 have hq9:=World.alloc_heap_new W0 (.cells #[.int .i64 r,.int .i64 C,.slice a n c,.int .i64 r2,.int .i64 C2,.slice a2 n2 c2,.int .i64 r3,.int .i64 C3,.slice a3 n3 c3] 24)
 have hb9:Below W0.heap.size W0 (W0.alloc (.cells #[.int .i64 r,.int .i64 C,.slice a n c,.int .i64 r2,.int .i64 C2,.slice a2 n2 c2,.int .i64 r3,.int .i64 C3,.slice a3 n3 c3] 24)):=keep_alloc (Below.refl _ _) _
 generalize (W0.alloc (.cells #[.int .i64 r,.int .i64 C,.slice a n c,.int .i64 r2,.int .i64 C2,.slice a2 n2 c2,.int .i64 r3,.int .i64 C3,.slice a3 n3 c3] 24))=W1 at hq9 hb9 ⊢
 have HQ9:=Lib.hid hq9
 have HB1:=Lib.hid hb9
 clear x0 x1 x2 xl y0 y1 y2 yl z0 z1 z2 zl hq9 hb9
 go_loopw [8,30] (fun _ s30 wr=>∃k:Nat,k≤0∧s30 = .int .i64 (k:Int)∧Hid (Below W1.heap.size W1 wr)) (fun _ s30 _=>3 - (intOf s30).toNat)
 case atStart=>exact ⟨0,by omega,rfl,Below.refl _ _⟩
 case round =>
  obtain ⟨k,hk,rfl,hbr⟩:=hrel
  have hq:=keepq hbr.out HQ9.out
  have hqz:=q_lt hq
  by_cases e0:k=0
  ·subst e0
   have g0:=q_cell hq 0
   have g1:=q_cell hq 1
   have g2:=q_cell hq 2
   go_upto_region 4 with fail
   have vsz:(wr.alloc (.cells #[.int .i64 r,.int .i64 C,.slice a n c] 24)).heap.size=wr.heap.size+1:=by simp only[World.size_alloc]
   have vB:Below wr.heap.size wr (wr.alloc (.cells #[.int .i64 r,.int .i64 C,.slice a n c] 24)):=(Below.refl _ _).alloc (Nat.le_refl _) _
   have vq0:(wr.alloc (.cells #[.int .i64 r,.int .i64 C,.slice a n c] 24)).heap[wr.heap.size]?=some (.cells #[.int .i64 r,.int .i64 C,.slice a n c] 24 (0,0)):=by have h:=World.alloc_heap_new wr (.cells #[.int .i64 r,.int .i64 C,.slice a n c] 24);exact h
   generalize (wr.alloc (.cells #[.int .i64 r,.int .i64 C,.slice a n c] 24))=V at vsz vB vq0 ⊢
   have QV:=Lib.hid vq0
   have VB:=Lib.hid vB
   obtain ⟨x0,x1,x2,xl⟩:=c3_of vq0
   clear vq0 vB vsz g0 g1 g2
   go_wp2_with (first|(go_at_call 19;(with_reducible refine (lgreat_c r C a n c 16 _).mono ?_);rintro _ w1 ⟨rfl,hbw1⟩;have hkw1:Below V.heap.size V w1:=(by (repeat (first|assumption|exact Below.refl _ _|refine keep_drew ?_|refine keep_alloc ?_ _|refine keep_trans ?_ (by assumption))));obtain ⟨xw10,xw11,xw12,xw1l⟩:=c3_of (keepq hkw1 QV.out))|(go_at_call 20;refine (awake4_c _).mono ?_;rintro _ wz ⟨rfl,hbz⟩)|fail)
   refine bodyPost_ret (v := .bool true) ?_ rfl ⟨rfl,keep_trans (keep_trans (keep_trans (keep_trans FB.out HB1.out) hbr.out) VB.out) (show Below V.heap.size V wz by (repeat (first|assumption|exact Below.refl _ _|refine keep_drew ?_|refine keep_alloc ?_ _|refine keep_trans ?_ (by assumption))))⟩
   simp[results,Tryz.f13,go_sem]
  ·omega
theorem lprod_c0 (r C:Int) (a:Option Addr) (n c:Nat) (r2 C2:Int) (a2:Option Addr) (n2 c2:Nat) (r3 C3:Int) (a3:Option Addr) (n3 c3:Nat) (w:World) (h0:¬16<n) (ea:Int) (hea:ea≠0)
  (HA0:∀W,Below w.heap.size w W→Calls Tryz.prog 22 #[.agg #[.int .i64 r,.int .i64 C,.slice a n c]] W fun e w'=>e = .returned (.int .i64 ea)∧Below W.heap.size W w')
  : Calls Tryz.prog 13 #[.agg #[.int .i64 r,.int .i64 C,.slice a n c],.agg #[.int .i64 r2,.int .i64 C2,.slice a2 n2 c2],.agg #[.int .i64 r3,.int .i64 C3,.slice a3 n3 c3]] w fun e w'=>e = .returned (.bool true)∧Below w.heap.size w w':=by
 have hg0:decide ((16:Int)<(n:Int))=false:=decide_eq_false (by omega)
 have e1:(ea != 0)=true:=by simpa using hea
 clear hea
 have HA0:=Lib.hid HA0
 go_enter Tryz.func13,Tryz.ntmps13
 go_upto_region 1 with fail
 have fsz:(((w.alloc (.cells #[.int .i64 r,.int .i64 C,.slice a n c] 24)).alloc (.cells #[.int .i64 r2,.int .i64 C2,.slice a2 n2 c2] 24)).alloc (.cells #[.int .i64 r3,.int .i64 C3,.slice a3 n3 c3] 24)).heap.size=w.heap.size+3:=by simp only[World.size_alloc] <;> omega
 have fB:Below w.heap.size w (((w.alloc (.cells #[.int .i64 r,.int .i64 C,.slice a n c] 24)).alloc (.cells #[.int .i64 r2,.int .i64 C2,.slice a2 n2 c2] 24)).alloc (.cells #[.int .i64 r3,.int .i64 C3,.slice a3 n3 c3] 24)):=(((Below.refl _ _).alloc (Nat.le_refl _) _).alloc (by simp only[World.size_alloc];omega) _).alloc (by simp only[World.size_alloc];omega) _
 have fq0:(((w.alloc (.cells #[.int .i64 r,.int .i64 C,.slice a n c] 24)).alloc (.cells #[.int .i64 r2,.int .i64 C2,.slice a2 n2 c2] 24)).alloc (.cells #[.int .i64 r3,.int .i64 C3,.slice a3 n3 c3] 24)).heap[w.heap.size]?=some (.cells #[.int .i64 r,.int .i64 C,.slice a n c] 24 (0,0)):=by have h:=World.alloc_heap_new w (.cells #[.int .i64 r,.int .i64 C,.slice a n c] 24);exact (Below.heap_alloc _ _ _ (by simp only[World.size_alloc];omega)).trans ((Below.heap_alloc _ _ _ (by simp only[World.size_alloc];omega)).trans (h))
 have fq1:(((w.alloc (.cells #[.int .i64 r,.int .i64 C,.slice a n c] 24)).alloc (.cells #[.int .i64 r2,.int .i64 C2,.slice a2 n2 c2] 24)).alloc (.cells #[.int .i64 r3,.int .i64 C3,.slice a3 n3 c3] 24)).heap[w.heap.size+1]?=some (.cells #[.int .i64 r2,.int .i64 C2,.slice a2 n2 c2] 24 (0,0)):=by have h:=World.alloc_heap_new (w.alloc (.cells #[.int .i64 r,.int .i64 C,.slice a n c] 24)) (.cells #[.int .i64 r2,.int .i64 C2,.slice a2 n2 c2] 24);simp only[World.size_alloc] at h;exact (Below.heap_alloc _ _ _ (by simp only[World.size_alloc];omega)).trans (h)
 have fq2:(((w.alloc (.cells #[.int .i64 r,.int .i64 C,.slice a n c] 24)).alloc (.cells #[.int .i64 r2,.int .i64 C2,.slice a2 n2 c2] 24)).alloc (.cells #[.int .i64 r3,.int .i64 C3,.slice a3 n3 c3] 24)).heap[w.heap.size+1+1]?=some (.cells #[.int .i64 r3,.int .i64 C3,.slice a3 n3 c3] 24 (0,0)):=by have h:=World.alloc_heap_new ((w.alloc (.cells #[.int .i64 r,.int .i64 C,.slice a n c] 24)).alloc (.cells #[.int .i64 r2,.int .i64 C2,.slice a2 n2 c2] 24)) (.cells #[.int .i64 r3,.int .i64 C3,.slice a3 n3 c3] 24);simp only[World.size_alloc] at h;exact h
 generalize (((w.alloc (.cells #[.int .i64 r,.int .i64 C,.slice a n c] 24)).alloc (.cells #[.int .i64 r2,.int .i64 C2,.slice a2 n2 c2] 24)).alloc (.cells #[.int .i64 r3,.int .i64 C3,.slice a3 n3 c3] 24))=W0 at fsz fB fq0 fq1 fq2 ⊢
 have Q0:=Lib.hid fq0
 have Q1:=Lib.hid fq1
 have Q2:=Lib.hid fq2
 have FB:=Lib.hid fB
 obtain ⟨x0,x1,x2,xl⟩:=c3_of fq0
 obtain ⟨y0,y1,y2,yl⟩:=c3_of fq1
 obtain ⟨z0,z1,z2,zl⟩:=c3_of fq2
 clear fq0 fq1 fq2 fsz fB
 go_upto_region 2 with fail
 have hq9:=World.alloc_heap_new W0 (.cells #[.int .i64 r,.int .i64 C,.slice a n c,.int .i64 r2,.int .i64 C2,.slice a2 n2 c2,.int .i64 r3,.int .i64 C3,.slice a3 n3 c3] 24)
 have hb9:Below W0.heap.size W0 (W0.alloc (.cells #[.int .i64 r,.int .i64 C,.slice a n c,.int .i64 r2,.int .i64 C2,.slice a2 n2 c2,.int .i64 r3,.int .i64 C3,.slice a3 n3 c3] 24)):=keep_alloc (Below.refl _ _) _
 generalize (W0.alloc (.cells #[.int .i64 r,.int .i64 C,.slice a n c,.int .i64 r2,.int .i64 C2,.slice a2 n2 c2,.int .i64 r3,.int .i64 C3,.slice a3 n3 c3] 24))=W1 at hq9 hb9 ⊢
 have HQ9:=Lib.hid hq9
 have HB1:=Lib.hid hb9
 clear x0 x1 x2 xl y0 y1 y2 yl z0 z1 z2 zl hq9 hb9
 go_loopw [8,30] (fun _ s30 wr=>∃k:Nat,k≤0∧s30 = .int .i64 (k:Int)∧Hid (Below W1.heap.size W1 wr)) (fun _ s30 _=>3 - (intOf s30).toNat)
 case atStart=>exact ⟨0,by omega,rfl,Below.refl _ _⟩
 case round =>
  obtain ⟨k,hk,rfl,hbr⟩:=hrel
  have hq:=keepq hbr.out HQ9.out
  have hqz:=q_lt hq
  by_cases e0:k=0
  ·subst e0
   have g0:=q_cell hq 0
   have g1:=q_cell hq 1
   have g2:=q_cell hq 2
   go_upto_region 4 with fail
   have vsz:(wr.alloc (.cells #[.int .i64 r,.int .i64 C,.slice a n c] 24)).heap.size=wr.heap.size+1:=by simp only[World.size_alloc]
   have vB:Below wr.heap.size wr (wr.alloc (.cells #[.int .i64 r,.int .i64 C,.slice a n c] 24)):=(Below.refl _ _).alloc (Nat.le_refl _) _
   have vq0:(wr.alloc (.cells #[.int .i64 r,.int .i64 C,.slice a n c] 24)).heap[wr.heap.size]?=some (.cells #[.int .i64 r,.int .i64 C,.slice a n c] 24 (0,0)):=by have h:=World.alloc_heap_new wr (.cells #[.int .i64 r,.int .i64 C,.slice a n c] 24);exact h
   generalize (wr.alloc (.cells #[.int .i64 r,.int .i64 C,.slice a n c] 24))=V at vsz vB vq0 ⊢
   have QV:=Lib.hid vq0
   have VB:=Lib.hid vB
   obtain ⟨x0,x1,x2,xl⟩:=c3_of vq0
   clear vq0 vB vsz g0 g1 g2
   go_wp2_with (first|(go_at_call 19;(with_reducible refine (lgreat_c r C a n c 16 _).mono ?_);rintro _ w1 ⟨rfl,hbw1⟩;have hkw1:Below V.heap.size V w1:=(by (repeat (first|assumption|exact Below.refl _ _|refine keep_drew ?_|refine keep_alloc ?_ _|refine keep_trans ?_ (by assumption))));obtain ⟨xw10,xw11,xw12,xw1l⟩:=c3_of (keepq hkw1 QV.out))|(go_at_call 22;(with_reducible refine (HA0.out _ (keep_trans (keep_trans (keep_trans (keep_trans FB.out HB1.out) hbr.out) VB.out) (by (repeat (first|assumption|exact Below.refl _ _|refine keep_drew ?_|refine keep_alloc ?_ _|refine keep_trans ?_ (by assumption)))))).mono ?_);rintro _ w2 ⟨rfl,hbw2⟩;have hkw2:Below V.heap.size V w2:=(by (repeat (first|assumption|exact Below.refl _ _|refine keep_drew ?_|refine keep_alloc ?_ _|refine keep_trans ?_ (by assumption))));obtain ⟨xw20,xw21,xw22,xw2l⟩:=c3_of (keepq hkw2 QV.out))|(go_at_call 20;refine (awake4_c _).mono ?_;rintro _ wz ⟨rfl,hbz⟩)|fail)
   refine bodyPost_ret (v := .bool true) ?_ rfl ⟨rfl,keep_trans (keep_trans (keep_trans (keep_trans FB.out HB1.out) hbr.out) VB.out) (show Below V.heap.size V wz by (repeat (first|assumption|exact Below.refl _ _|refine keep_drew ?_|refine keep_alloc ?_ _|refine keep_trans ?_ (by assumption))))⟩
   simp[results,Tryz.f13,go_sem]
  ·omega
theorem lprod_g1 (r C:Int) (a:Option Addr) (n c:Nat) (r2 C2:Int) (a2:Option Addr) (n2 c2:Nat) (r3 C3:Int) (a3:Option Addr) (n3 c3:Nat) (w:World) (h0:¬16<n) (h1:16<n2)
  (HA0:∀W,Below w.heap.size w W→Calls Tryz.prog 22 #[.agg #[.int .i64 r,.int .i64 C,.slice a n c]] W fun e w'=>e = .returned (.int .i64 0)∧Below W.heap.size W w')
  : Calls Tryz.prog 13 #[.agg #[.int .i64 r,.int .i64 C,.slice a n c],.agg #[.int .i64 r2,.int .i64 C2,.slice a2 n2 c2],.agg #[.int .i64 r3,.int .i64 C3,.slice a3 n3 c3]] w fun e w'=>e = .returned (.bool true)∧Below w.heap.size w w':=by
 have hg0:decide ((16:Int)<(n:Int))=false:=decide_eq_false (by omega)
 have hg1:decide ((16:Int)<(n2:Int))=true:=decide_eq_true (by omega)
 have HA0:=Lib.hid HA0
 go_enter Tryz.func13,Tryz.ntmps13
 go_upto_region 1 with fail
 have fsz:(((w.alloc (.cells #[.int .i64 r,.int .i64 C,.slice a n c] 24)).alloc (.cells #[.int .i64 r2,.int .i64 C2,.slice a2 n2 c2] 24)).alloc (.cells #[.int .i64 r3,.int .i64 C3,.slice a3 n3 c3] 24)).heap.size=w.heap.size+3:=by simp only[World.size_alloc] <;> omega
 have fB:Below w.heap.size w (((w.alloc (.cells #[.int .i64 r,.int .i64 C,.slice a n c] 24)).alloc (.cells #[.int .i64 r2,.int .i64 C2,.slice a2 n2 c2] 24)).alloc (.cells #[.int .i64 r3,.int .i64 C3,.slice a3 n3 c3] 24)):=(((Below.refl _ _).alloc (Nat.le_refl _) _).alloc (by simp only[World.size_alloc];omega) _).alloc (by simp only[World.size_alloc];omega) _
 have fq0:(((w.alloc (.cells #[.int .i64 r,.int .i64 C,.slice a n c] 24)).alloc (.cells #[.int .i64 r2,.int .i64 C2,.slice a2 n2 c2] 24)).alloc (.cells #[.int .i64 r3,.int .i64 C3,.slice a3 n3 c3] 24)).heap[w.heap.size]?=some (.cells #[.int .i64 r,.int .i64 C,.slice a n c] 24 (0,0)):=by have h:=World.alloc_heap_new w (.cells #[.int .i64 r,.int .i64 C,.slice a n c] 24);exact (Below.heap_alloc _ _ _ (by simp only[World.size_alloc];omega)).trans ((Below.heap_alloc _ _ _ (by simp only[World.size_alloc];omega)).trans (h))
 have fq1:(((w.alloc (.cells #[.int .i64 r,.int .i64 C,.slice a n c] 24)).alloc (.cells #[.int .i64 r2,.int .i64 C2,.slice a2 n2 c2] 24)).alloc (.cells #[.int .i64 r3,.int .i64 C3,.slice a3 n3 c3] 24)).heap[w.heap.size+1]?=some (.cells #[.int .i64 r2,.int .i64 C2,.slice a2 n2 c2] 24 (0,0)):=by have h:=World.alloc_heap_new (w.alloc (.cells #[.int .i64 r,.int .i64 C,.slice a n c] 24)) (.cells #[.int .i64 r2,.int .i64 C2,.slice a2 n2 c2] 24);simp only[World.size_alloc] at h;exact (Below.heap_alloc _ _ _ (by simp only[World.size_alloc];omega)).trans (h)
 have fq2:(((w.alloc (.cells #[.int .i64 r,.int .i64 C,.slice a n c] 24)).alloc (.cells #[.int .i64 r2,.int .i64 C2,.slice a2 n2 c2] 24)).alloc (.cells #[.int .i64 r3,.int .i64 C3,.slice a3 n3 c3] 24)).heap[w.heap.size+1+1]?=some (.cells #[.int .i64 r3,.int .i64 C3,.slice a3 n3 c3] 24 (0,0)):=by have h:=World.alloc_heap_new ((w.alloc (.cells #[.int .i64 r,.int .i64 C,.slice a n c] 24)).alloc (.cells #[.int .i64 r2,.int .i64 C2,.slice a2 n2 c2] 24)) (.cells #[.int .i64 r3,.int .i64 C3,.slice a3 n3 c3] 24);simp only[World.size_alloc] at h;exact h
 generalize (((w.alloc (.cells #[.int .i64 r,.int .i64 C,.slice a n c] 24)).alloc (.cells #[.int .i64 r2,.int .i64 C2,.slice a2 n2 c2] 24)).alloc (.cells #[.int .i64 r3,.int .i64 C3,.slice a3 n3 c3] 24))=W0 at fsz fB fq0 fq1 fq2 ⊢
 have Q0:=Lib.hid fq0
 have Q1:=Lib.hid fq1
 have Q2:=Lib.hid fq2
 have FB:=Lib.hid fB
 obtain ⟨x0,x1,x2,xl⟩:=c3_of fq0
 obtain ⟨y0,y1,y2,yl⟩:=c3_of fq1
 obtain ⟨z0,z1,z2,zl⟩:=c3_of fq2
 clear fq0 fq1 fq2 fsz fB
 go_upto_region 2 with fail
 have hq9:=World.alloc_heap_new W0 (.cells #[.int .i64 r,.int .i64 C,.slice a n c,.int .i64 r2,.int .i64 C2,.slice a2 n2 c2,.int .i64 r3,.int .i64 C3,.slice a3 n3 c3] 24)
 have hb9:Below W0.heap.size W0 (W0.alloc (.cells #[.int .i64 r,.int .i64 C,.slice a n c,.int .i64 r2,.int .i64 C2,.slice a2 n2 c2,.int .i64 r3,.int .i64 C3,.slice a3 n3 c3] 24)):=keep_alloc (Below.refl _ _) _
 generalize (W0.alloc (.cells #[.int .i64 r,.int .i64 C,.slice a n c,.int .i64 r2,.int .i64 C2,.slice a2 n2 c2,.int .i64 r3,.int .i64 C3,.slice a3 n3 c3] 24))=W1 at hq9 hb9 ⊢
 have HQ9:=Lib.hid hq9
 have HB1:=Lib.hid hb9
 clear x0 x1 x2 xl y0 y1 y2 yl z0 z1 z2 zl hq9 hb9
 go_loopw [8,30] (fun _ s30 wr=>∃k:Nat,k≤1∧s30 = .int .i64 (k:Int)∧Hid (Below W1.heap.size W1 wr)) (fun _ s30 _=>3 - (intOf s30).toNat)
 case atStart=>exact ⟨0,by omega,rfl,Below.refl _ _⟩
 case round =>
  obtain ⟨k,hk,rfl,hbr⟩:=hrel
  have hq:=keepq hbr.out HQ9.out
  have hqz:=q_lt hq
  by_cases e0:k=0
  ·subst e0
   have g0:=q_cell hq 0
   have g1:=q_cell hq 1
   have g2:=q_cell hq 2
   go_upto_region 4 with fail
   have vsz:(wr.alloc (.cells #[.int .i64 r,.int .i64 C,.slice a n c] 24)).heap.size=wr.heap.size+1:=by simp only[World.size_alloc]
   have vB:Below wr.heap.size wr (wr.alloc (.cells #[.int .i64 r,.int .i64 C,.slice a n c] 24)):=(Below.refl _ _).alloc (Nat.le_refl _) _
   have vq0:(wr.alloc (.cells #[.int .i64 r,.int .i64 C,.slice a n c] 24)).heap[wr.heap.size]?=some (.cells #[.int .i64 r,.int .i64 C,.slice a n c] 24 (0,0)):=by have h:=World.alloc_heap_new wr (.cells #[.int .i64 r,.int .i64 C,.slice a n c] 24);exact h
   generalize (wr.alloc (.cells #[.int .i64 r,.int .i64 C,.slice a n c] 24))=V at vsz vB vq0 ⊢
   have QV:=Lib.hid vq0
   have VB:=Lib.hid vB
   obtain ⟨x0,x1,x2,xl⟩:=c3_of vq0
   clear vq0 vB vsz g0 g1 g2
   go_wp2_with (first|(go_at_call 19;(with_reducible refine (lgreat_c r C a n c 16 _).mono ?_);rintro _ w1 ⟨rfl,hbw1⟩;have hkw1:Below V.heap.size V w1:=(by (repeat (first|assumption|exact Below.refl _ _|refine keep_drew ?_|refine keep_alloc ?_ _|refine keep_trans ?_ (by assumption))));obtain ⟨xw10,xw11,xw12,xw1l⟩:=c3_of (keepq hkw1 QV.out))|(go_at_call 22;(with_reducible refine (HA0.out _ (keep_trans (keep_trans (keep_trans (keep_trans FB.out HB1.out) hbr.out) VB.out) (by (repeat (first|assumption|exact Below.refl _ _|refine keep_drew ?_|refine keep_alloc ?_ _|refine keep_trans ?_ (by assumption)))))).mono ?_);rintro _ w2 ⟨rfl,hbw2⟩;have hkw2:Below V.heap.size V w2:=(by (repeat (first|assumption|exact Below.refl _ _|refine keep_drew ?_|refine keep_alloc ?_ _|refine keep_trans ?_ (by assumption))));obtain ⟨xw20,xw21,xw22,xw2l⟩:=c3_of (keepq hkw2 QV.out))|fail)
   go_roundw
   case rel=>exact ⟨1,by omega,by go_num,keep_trans hbr.out (keep_trans VB.out (show Below V.heap.size V w2 by (repeat (first|assumption|exact Below.refl _ _|refine keep_drew ?_|refine keep_alloc ?_ _|refine keep_trans ?_ (by assumption)))))⟩
   case measure=>simp[intOf]
  by_cases e1:k=1
  ·subst e1
   have g0:=q_cell hq 3
   have g1:=q_cell hq 4
   have g2:=q_cell hq 5
   go_upto_region 4 with fail
   have vsz:(wr.alloc (.cells #[.int .i64 r2,.int .i64 C2,.slice a2 n2 c2] 24)).heap.size=wr.heap.size+1:=by simp only[World.size_alloc]
   have vB:Below wr.heap.size wr (wr.alloc (.cells #[.int .i64 r2,.int .i64 C2,.slice a2 n2 c2] 24)):=(Below.refl _ _).alloc (Nat.le_refl _) _
   have vq0:(wr.alloc (.cells #[.int .i64 r2,.int .i64 C2,.slice a2 n2 c2] 24)).heap[wr.heap.size]?=some (.cells #[.int .i64 r2,.int .i64 C2,.slice a2 n2 c2] 24 (0,0)):=by have h:=World.alloc_heap_new wr (.cells #[.int .i64 r2,.int .i64 C2,.slice a2 n2 c2] 24);exact h
   generalize (wr.alloc (.cells #[.int .i64 r2,.int .i64 C2,.slice a2 n2 c2] 24))=V at vsz vB vq0 ⊢
   have QV:=Lib.hid vq0
   have VB:=Lib.hid vB
   obtain ⟨x0,x1,x2,xl⟩:=c3_of vq0
   clear vq0 vB vsz g0 g1 g2
   go_wp2_with (first|(go_at_call 19;(with_reducible refine (lgreat_c r2 C2 a2 n2 c2 16 _).mono ?_);rintro _ w1 ⟨rfl,hbw1⟩;have hkw1:Below V.heap.size V w1:=(by (repeat (first|assumption|exact Below.refl _ _|refine keep_drew ?_|refine keep_alloc ?_ _|refine keep_trans ?_ (by assumption))));obtain ⟨xw10,xw11,xw12,xw1l⟩:=c3_of (keepq hkw1 QV.out))|(go_at_call 20;refine (awake4_c _).mono ?_;rintro _ wz ⟨rfl,hbz⟩)|fail)
   refine bodyPost_ret (v := .bool true) ?_ rfl ⟨rfl,keep_trans (keep_trans (keep_trans (keep_trans FB.out HB1.out) hbr.out) VB.out) (show Below V.heap.size V wz by (repeat (first|assumption|exact Below.refl _ _|refine keep_drew ?_|refine keep_alloc ?_ _|refine keep_trans ?_ (by assumption))))⟩
   simp[results,Tryz.f13,go_sem]
  ·omega
theorem lprod_c1 (r C:Int) (a:Option Addr) (n c:Nat) (r2 C2:Int) (a2:Option Addr) (n2 c2:Nat) (r3 C3:Int) (a3:Option Addr) (n3 c3:Nat) (w:World) (h0:¬16<n) (h1:¬16<n2) (ea:Int) (hea:ea≠0)
  (HA0:∀W,Below w.heap.size w W→Calls Tryz.prog 22 #[.agg #[.int .i64 r,.int .i64 C,.slice a n c]] W fun e w'=>e = .returned (.int .i64 0)∧Below W.heap.size W w')
  (HA1:∀W,Below w.heap.size w W→Calls Tryz.prog 22 #[.agg #[.int .i64 r2,.int .i64 C2,.slice a2 n2 c2]] W fun e w'=>e = .returned (.int .i64 ea)∧Below W.heap.size W w')
  : Calls Tryz.prog 13 #[.agg #[.int .i64 r,.int .i64 C,.slice a n c],.agg #[.int .i64 r2,.int .i64 C2,.slice a2 n2 c2],.agg #[.int .i64 r3,.int .i64 C3,.slice a3 n3 c3]] w fun e w'=>e = .returned (.bool true)∧Below w.heap.size w w':=by
 have hg0:decide ((16:Int)<(n:Int))=false:=decide_eq_false (by omega)
 have hg1:decide ((16:Int)<(n2:Int))=false:=decide_eq_false (by omega)
 have e1:(ea != 0)=true:=by simpa using hea
 clear hea
 have HA0:=Lib.hid HA0
 have HA1:=Lib.hid HA1
 go_enter Tryz.func13,Tryz.ntmps13
 go_upto_region 1 with fail
 have fsz:(((w.alloc (.cells #[.int .i64 r,.int .i64 C,.slice a n c] 24)).alloc (.cells #[.int .i64 r2,.int .i64 C2,.slice a2 n2 c2] 24)).alloc (.cells #[.int .i64 r3,.int .i64 C3,.slice a3 n3 c3] 24)).heap.size=w.heap.size+3:=by simp only[World.size_alloc] <;> omega
 have fB:Below w.heap.size w (((w.alloc (.cells #[.int .i64 r,.int .i64 C,.slice a n c] 24)).alloc (.cells #[.int .i64 r2,.int .i64 C2,.slice a2 n2 c2] 24)).alloc (.cells #[.int .i64 r3,.int .i64 C3,.slice a3 n3 c3] 24)):=(((Below.refl _ _).alloc (Nat.le_refl _) _).alloc (by simp only[World.size_alloc];omega) _).alloc (by simp only[World.size_alloc];omega) _
 have fq0:(((w.alloc (.cells #[.int .i64 r,.int .i64 C,.slice a n c] 24)).alloc (.cells #[.int .i64 r2,.int .i64 C2,.slice a2 n2 c2] 24)).alloc (.cells #[.int .i64 r3,.int .i64 C3,.slice a3 n3 c3] 24)).heap[w.heap.size]?=some (.cells #[.int .i64 r,.int .i64 C,.slice a n c] 24 (0,0)):=by have h:=World.alloc_heap_new w (.cells #[.int .i64 r,.int .i64 C,.slice a n c] 24);exact (Below.heap_alloc _ _ _ (by simp only[World.size_alloc];omega)).trans ((Below.heap_alloc _ _ _ (by simp only[World.size_alloc];omega)).trans (h))
 have fq1:(((w.alloc (.cells #[.int .i64 r,.int .i64 C,.slice a n c] 24)).alloc (.cells #[.int .i64 r2,.int .i64 C2,.slice a2 n2 c2] 24)).alloc (.cells #[.int .i64 r3,.int .i64 C3,.slice a3 n3 c3] 24)).heap[w.heap.size+1]?=some (.cells #[.int .i64 r2,.int .i64 C2,.slice a2 n2 c2] 24 (0,0)):=by have h:=World.alloc_heap_new (w.alloc (.cells #[.int .i64 r,.int .i64 C,.slice a n c] 24)) (.cells #[.int .i64 r2,.int .i64 C2,.slice a2 n2 c2] 24);simp only[World.size_alloc] at h;exact (Below.heap_alloc _ _ _ (by simp only[World.size_alloc];omega)).trans (h)
 have fq2:(((w.alloc (.cells #[.int .i64 r,.int .i64 C,.slice a n c] 24)).alloc (.cells #[.int .i64 r2,.int .i64 C2,.slice a2 n2 c2] 24)).alloc (.cells #[.int .i64 r3,.int .i64 C3,.slice a3 n3 c3] 24)).heap[w.heap.size+1+1]?=some (.cells #[.int .i64 r3,.int .i64 C3,.slice a3 n3 c3] 24 (0,0)):=by have h:=World.alloc_heap_new ((w.alloc (.cells #[.int .i64 r,.int .i64 C,.slice a n c] 24)).alloc (.cells #[.int .i64 r2,.int .i64 C2,.slice a2 n2 c2] 24)) (.cells #[.int .i64 r3,.int .i64 C3,.slice a3 n3 c3] 24);simp only[World.size_alloc] at h;exact h
 generalize (((w.alloc (.cells #[.int .i64 r,.int .i64 C,.slice a n c] 24)).alloc (.cells #[.int .i64 r2,.int .i64 C2,.slice a2 n2 c2] 24)).alloc (.cells #[.int .i64 r3,.int .i64 C3,.slice a3 n3 c3] 24))=W0 at fsz fB fq0 fq1 fq2 ⊢
 have Q0:=Lib.hid fq0
 have Q1:=Lib.hid fq1
 have Q2:=Lib.hid fq2
 have FB:=Lib.hid fB
 obtain ⟨x0,x1,x2,xl⟩:=c3_of fq0
 obtain ⟨y0,y1,y2,yl⟩:=c3_of fq1
 obtain ⟨z0,z1,z2,zl⟩:=c3_of fq2
 clear fq0 fq1 fq2 fsz fB
 go_upto_region 2 with fail
 have hq9:=World.alloc_heap_new W0 (.cells #[.int .i64 r,.int .i64 C,.slice a n c,.int .i64 r2,.int .i64 C2,.slice a2 n2 c2,.int .i64 r3,.int .i64 C3,.slice a3 n3 c3] 24)
 have hb9:Below W0.heap.size W0 (W0.alloc (.cells #[.int .i64 r,.int .i64 C,.slice a n c,.int .i64 r2,.int .i64 C2,.slice a2 n2 c2,.int .i64 r3,.int .i64 C3,.slice a3 n3 c3] 24)):=keep_alloc (Below.refl _ _) _
 generalize (W0.alloc (.cells #[.int .i64 r,.int .i64 C,.slice a n c,.int .i64 r2,.int .i64 C2,.slice a2 n2 c2,.int .i64 r3,.int .i64 C3,.slice a3 n3 c3] 24))=W1 at hq9 hb9 ⊢
 have HQ9:=Lib.hid hq9
 have HB1:=Lib.hid hb9
 clear x0 x1 x2 xl y0 y1 y2 yl z0 z1 z2 zl hq9 hb9
 go_loopw [8,30] (fun _ s30 wr=>∃k:Nat,k≤1∧s30 = .int .i64 (k:Int)∧Hid (Below W1.heap.size W1 wr)) (fun _ s30 _=>3 - (intOf s30).toNat)
 case atStart=>exact ⟨0,by omega,rfl,Below.refl _ _⟩
 case round =>
  obtain ⟨k,hk,rfl,hbr⟩:=hrel
  have hq:=keepq hbr.out HQ9.out
  have hqz:=q_lt hq
  by_cases e0:k=0
  ·subst e0
   have g0:=q_cell hq 0
   have g1:=q_cell hq 1
   have g2:=q_cell hq 2
   go_upto_region 4 with fail
   have vsz:(wr.alloc (.cells #[.int .i64 r,.int .i64 C,.slice a n c] 24)).heap.size=wr.heap.size+1:=by simp only[World.size_alloc]
   have vB:Below wr.heap.size wr (wr.alloc (.cells #[.int .i64 r,.int .i64 C,.slice a n c] 24)):=(Below.refl _ _).alloc (Nat.le_refl _) _
   have vq0:(wr.alloc (.cells #[.int .i64 r,.int .i64 C,.slice a n c] 24)).heap[wr.heap.size]?=some (.cells #[.int .i64 r,.int .i64 C,.slice a n c] 24 (0,0)):=by have h:=World.alloc_heap_new wr (.cells #[.int .i64 r,.int .i64 C,.slice a n c] 24);exact h
   generalize (wr.alloc (.cells #[.int .i64 r,.int .i64 C,.slice a n c] 24))=V at vsz vB vq0 ⊢
   have QV:=Lib.hid vq0
   have VB:=Lib.hid vB
   obtain ⟨x0,x1,x2,xl⟩:=c3_of vq0
   clear vq0 vB vsz g0 g1 g2
   go_wp2_with (first|(go_at_call 19;(with_reducible refine (lgreat_c r C a n c 16 _).mono ?_);rintro _ w1 ⟨rfl,hbw1⟩;have hkw1:Below V.heap.size V w1:=(by (repeat (first|assumption|exact Below.refl _ _|refine keep_drew ?_|refine keep_alloc ?_ _|refine keep_trans ?_ (by assumption))));obtain ⟨xw10,xw11,xw12,xw1l⟩:=c3_of (keepq hkw1 QV.out))|(go_at_call 22;(with_reducible refine (HA0.out _ (keep_trans (keep_trans (keep_trans (keep_trans FB.out HB1.out) hbr.out) VB.out) (by (repeat (first|assumption|exact Below.refl _ _|refine keep_drew ?_|refine keep_alloc ?_ _|refine keep_trans ?_ (by assumption)))))).mono ?_);rintro _ w2 ⟨rfl,hbw2⟩;have hkw2:Below V.heap.size V w2:=(by (repeat (first|assumption|exact Below.refl _ _|refine keep_drew ?_|refine keep_alloc ?_ _|refine keep_trans ?_ (by assumption))));obtain ⟨xw20,xw21,xw22,xw2l⟩:=c3_of (keepq hkw2 QV.out))|fail)
   go_roundw
   case rel=>exact ⟨1,by omega,by go_num,keep_trans hbr.out (keep_trans VB.out (show Below V.heap.size V w2 by (repeat (first|assumption|exact Below.refl _ _|refine keep_drew ?_|refine keep_alloc ?_ _|refine keep_trans ?_ (by assumption)))))⟩
   case measure=>simp[intOf]
  by_cases e1:k=1
  ·subst e1
   have g0:=q_cell hq 3
   have g1:=q_cell hq 4
   have g2:=q_cell hq 5
   go_upto_region 4 with fail
   have vsz:(wr.alloc (.cells #[.int .i64 r2,.int .i64 C2,.slice a2 n2 c2] 24)).heap.size=wr.heap.size+1:=by simp only[World.size_alloc]
   have vB:Below wr.heap.size wr (wr.alloc (.cells #[.int .i64 r2,.int .i64 C2,.slice a2 n2 c2] 24)):=(Below.refl _ _).alloc (Nat.le_refl _) _
   have vq0:(wr.alloc (.cells #[.int .i64 r2,.int .i64 C2,.slice a2 n2 c2] 24)).heap[wr.heap.size]?=some (.cells #[.int .i64 r2,.int .i64 C2,.slice a2 n2 c2] 24 (0,0)):=by have h:=World.alloc_heap_new wr (.cells #[.int .i64 r2,.int .i64 C2,.slice a2 n2 c2] 24);exact h
   generalize (wr.alloc (.cells #[.int .i64 r2,.int .i64 C2,.slice a2 n2 c2] 24))=V at vsz vB vq0 ⊢
   have QV:=Lib.hid vq0
   have VB:=Lib.hid vB
   obtain ⟨x0,x1,x2,xl⟩:=c3_of vq0
   clear vq0 vB vsz g0 g1 g2
   go_wp2_with (first|(go_at_call 19;(with_reducible refine (lgreat_c r2 C2 a2 n2 c2 16 _).mono ?_);rintro _ w1 ⟨rfl,hbw1⟩;have hkw1:Below V.heap.size V w1:=(by (repeat (first|assumption|exact Below.refl _ _|refine keep_drew ?_|refine keep_alloc ?_ _|refine keep_trans ?_ (by assumption))));obtain ⟨xw10,xw11,xw12,xw1l⟩:=c3_of (keepq hkw1 QV.out))|(go_at_call 22;(with_reducible refine (HA1.out _ (keep_trans (keep_trans (keep_trans (keep_trans FB.out HB1.out) hbr.out) VB.out) (by (repeat (first|assumption|exact Below.refl _ _|refine keep_drew ?_|refine keep_alloc ?_ _|refine keep_trans ?_ (by assumption)))))).mono ?_);rintro _ w2 ⟨rfl,hbw2⟩;have hkw2:Below V.heap.size V w2:=(by (repeat (first|assumption|exact Below.refl _ _|refine keep_drew ?_|refine keep_alloc ?_ _|refine keep_trans ?_ (by assumption))));obtain ⟨xw20,xw21,xw22,xw2l⟩:=c3_of (keepq hkw2 QV.out))|(go_at_call 20;refine (awake4_c _).mono ?_;rintro _ wz ⟨rfl,hbz⟩)|fail)
   refine bodyPost_ret (v := .bool true) ?_ rfl ⟨rfl,keep_trans (keep_trans (keep_trans (keep_trans FB.out HB1.out) hbr.out) VB.out) (show Below V.heap.size V wz by (repeat (first|assumption|exact Below.refl _ _|refine keep_drew ?_|refine keep_alloc ?_ _|refine keep_trans ?_ (by assumption))))⟩
   simp[results,Tryz.f13,go_sem]
  ·omega
theorem lprod_g2 (r C:Int) (a:Option Addr) (n c:Nat) (r2 C2:Int) (a2:Option Addr) (n2 c2:Nat) (r3 C3:Int) (a3:Option Addr) (n3 c3:Nat) (w:World) (h0:¬16<n) (h1:¬16<n2) (h2:16<n3)
  (HA0:∀W,Below w.heap.size w W→Calls Tryz.prog 22 #[.agg #[.int .i64 r,.int .i64 C,.slice a n c]] W fun e w'=>e = .returned (.int .i64 0)∧Below W.heap.size W w')
  (HA1:∀W,Below w.heap.size w W→Calls Tryz.prog 22 #[.agg #[.int .i64 r2,.int .i64 C2,.slice a2 n2 c2]] W fun e w'=>e = .returned (.int .i64 0)∧Below W.heap.size W w')
  : Calls Tryz.prog 13 #[.agg #[.int .i64 r,.int .i64 C,.slice a n c],.agg #[.int .i64 r2,.int .i64 C2,.slice a2 n2 c2],.agg #[.int .i64 r3,.int .i64 C3,.slice a3 n3 c3]] w fun e w'=>e = .returned (.bool true)∧Below w.heap.size w w':=by
 have hg0:decide ((16:Int)<(n:Int))=false:=decide_eq_false (by omega)
 have hg1:decide ((16:Int)<(n2:Int))=false:=decide_eq_false (by omega)
 have hg2:decide ((16:Int)<(n3:Int))=true:=decide_eq_true (by omega)
 have HA0:=Lib.hid HA0
 have HA1:=Lib.hid HA1
 go_enter Tryz.func13,Tryz.ntmps13
 go_upto_region 1 with fail
 have fsz:(((w.alloc (.cells #[.int .i64 r,.int .i64 C,.slice a n c] 24)).alloc (.cells #[.int .i64 r2,.int .i64 C2,.slice a2 n2 c2] 24)).alloc (.cells #[.int .i64 r3,.int .i64 C3,.slice a3 n3 c3] 24)).heap.size=w.heap.size+3:=by simp only[World.size_alloc] <;> omega
 have fB:Below w.heap.size w (((w.alloc (.cells #[.int .i64 r,.int .i64 C,.slice a n c] 24)).alloc (.cells #[.int .i64 r2,.int .i64 C2,.slice a2 n2 c2] 24)).alloc (.cells #[.int .i64 r3,.int .i64 C3,.slice a3 n3 c3] 24)):=(((Below.refl _ _).alloc (Nat.le_refl _) _).alloc (by simp only[World.size_alloc];omega) _).alloc (by simp only[World.size_alloc];omega) _
 have fq0:(((w.alloc (.cells #[.int .i64 r,.int .i64 C,.slice a n c] 24)).alloc (.cells #[.int .i64 r2,.int .i64 C2,.slice a2 n2 c2] 24)).alloc (.cells #[.int .i64 r3,.int .i64 C3,.slice a3 n3 c3] 24)).heap[w.heap.size]?=some (.cells #[.int .i64 r,.int .i64 C,.slice a n c] 24 (0,0)):=by have h:=World.alloc_heap_new w (.cells #[.int .i64 r,.int .i64 C,.slice a n c] 24);exact (Below.heap_alloc _ _ _ (by simp only[World.size_alloc];omega)).trans ((Below.heap_alloc _ _ _ (by simp only[World.size_alloc];omega)).trans (h))
 have fq1:(((w.alloc (.cells #[.int .i64 r,.int .i64 C,.slice a n c] 24)).alloc (.cells #[.int .i64 r2,.int .i64 C2,.slice a2 n2 c2] 24)).alloc (.cells #[.int .i64 r3,.int .i64 C3,.slice a3 n3 c3] 24)).heap[w.heap.size+1]?=some (.cells #[.int .i64 r2,.int .i64 C2,.slice a2 n2 c2] 24 (0,0)):=by have h:=World.alloc_heap_new (w.alloc (.cells #[.int .i64 r,.int .i64 C,.slice a n c] 24)) (.cells #[.int .i64 r2,.int .i64 C2,.slice a2 n2 c2] 24);simp only[World.size_alloc] at h;exact (Below.heap_alloc _ _ _ (by simp only[World.size_alloc];omega)).trans (h)
 have fq2:(((w.alloc (.cells #[.int .i64 r,.int .i64 C,.slice a n c] 24)).alloc (.cells #[.int .i64 r2,.int .i64 C2,.slice a2 n2 c2] 24)).alloc (.cells #[.int .i64 r3,.int .i64 C3,.slice a3 n3 c3] 24)).heap[w.heap.size+1+1]?=some (.cells #[.int .i64 r3,.int .i64 C3,.slice a3 n3 c3] 24 (0,0)):=by have h:=World.alloc_heap_new ((w.alloc (.cells #[.int .i64 r,.int .i64 C,.slice a n c] 24)).alloc (.cells #[.int .i64 r2,.int .i64 C2,.slice a2 n2 c2] 24)) (.cells #[.int .i64 r3,.int .i64 C3,.slice a3 n3 c3] 24);simp only[World.size_alloc] at h;exact h
 generalize (((w.alloc (.cells #[.int .i64 r,.int .i64 C,.slice a n c] 24)).alloc (.cells #[.int .i64 r2,.int .i64 C2,.slice a2 n2 c2] 24)).alloc (.cells #[.int .i64 r3,.int .i64 C3,.slice a3 n3 c3] 24))=W0 at fsz fB fq0 fq1 fq2 ⊢
 have Q0:=Lib.hid fq0
 have Q1:=Lib.hid fq1
 have Q2:=Lib.hid fq2
 have FB:=Lib.hid fB
 obtain ⟨x0,x1,x2,xl⟩:=c3_of fq0
 obtain ⟨y0,y1,y2,yl⟩:=c3_of fq1
 obtain ⟨z0,z1,z2,zl⟩:=c3_of fq2
 clear fq0 fq1 fq2 fsz fB
 go_upto_region 2 with fail
 have hq9:=World.alloc_heap_new W0 (.cells #[.int .i64 r,.int .i64 C,.slice a n c,.int .i64 r2,.int .i64 C2,.slice a2 n2 c2,.int .i64 r3,.int .i64 C3,.slice a3 n3 c3] 24)
 have hb9:Below W0.heap.size W0 (W0.alloc (.cells #[.int .i64 r,.int .i64 C,.slice a n c,.int .i64 r2,.int .i64 C2,.slice a2 n2 c2,.int .i64 r3,.int .i64 C3,.slice a3 n3 c3] 24)):=keep_alloc (Below.refl _ _) _
 generalize (W0.alloc (.cells #[.int .i64 r,.int .i64 C,.slice a n c,.int .i64 r2,.int .i64 C2,.slice a2 n2 c2,.int .i64 r3,.int .i64 C3,.slice a3 n3 c3] 24))=W1 at hq9 hb9 ⊢
 have HQ9:=Lib.hid hq9
 have HB1:=Lib.hid hb9
 clear x0 x1 x2 xl y0 y1 y2 yl z0 z1 z2 zl hq9 hb9
 go_loopw [8,30] (fun _ s30 wr=>∃k:Nat,k≤2∧s30 = .int .i64 (k:Int)∧Hid (Below W1.heap.size W1 wr)) (fun _ s30 _=>3 - (intOf s30).toNat)
 case atStart=>exact ⟨0,by omega,rfl,Below.refl _ _⟩
 case round =>
  obtain ⟨k,hk,rfl,hbr⟩:=hrel
  have hq:=keepq hbr.out HQ9.out
  have hqz:=q_lt hq
  by_cases e0:k=0
  ·subst e0
   have g0:=q_cell hq 0
   have g1:=q_cell hq 1
   have g2:=q_cell hq 2
   go_upto_region 4 with fail
   have vsz:(wr.alloc (.cells #[.int .i64 r,.int .i64 C,.slice a n c] 24)).heap.size=wr.heap.size+1:=by simp only[World.size_alloc]
   have vB:Below wr.heap.size wr (wr.alloc (.cells #[.int .i64 r,.int .i64 C,.slice a n c] 24)):=(Below.refl _ _).alloc (Nat.le_refl _) _
   have vq0:(wr.alloc (.cells #[.int .i64 r,.int .i64 C,.slice a n c] 24)).heap[wr.heap.size]?=some (.cells #[.int .i64 r,.int .i64 C,.slice a n c] 24 (0,0)):=by have h:=World.alloc_heap_new wr (.cells #[.int .i64 r,.int .i64 C,.slice a n c] 24);exact h
   generalize (wr.alloc (.cells #[.int .i64 r,.int .i64 C,.slice a n c] 24))=V at vsz vB vq0 ⊢
   have QV:=Lib.hid vq0
   have VB:=Lib.hid vB
   obtain ⟨x0,x1,x2,xl⟩:=c3_of vq0
   clear vq0 vB vsz g0 g1 g2
   go_wp2_with (first|(go_at_call 19;(with_reducible refine (lgreat_c r C a n c 16 _).mono ?_);rintro _ w1 ⟨rfl,hbw1⟩;have hkw1:Below V.heap.size V w1:=(by (repeat (first|assumption|exact Below.refl _ _|refine keep_drew ?_|refine keep_alloc ?_ _|refine keep_trans ?_ (by assumption))));obtain ⟨xw10,xw11,xw12,xw1l⟩:=c3_of (keepq hkw1 QV.out))|(go_at_call 22;(with_reducible refine (HA0.out _ (keep_trans (keep_trans (keep_trans (keep_trans FB.out HB1.out) hbr.out) VB.out) (by (repeat (first|assumption|exact Below.refl _ _|refine keep_drew ?_|refine keep_alloc ?_ _|refine keep_trans ?_ (by assumption)))))).mono ?_);rintro _ w2 ⟨rfl,hbw2⟩;have hkw2:Below V.heap.size V w2:=(by (repeat (first|assumption|exact Below.refl _ _|refine keep_drew ?_|refine keep_alloc ?_ _|refine keep_trans ?_ (by assumption))));obtain ⟨xw20,xw21,xw22,xw2l⟩:=c3_of (keepq hkw2 QV.out))|fail)
   go_roundw
   case rel=>exact ⟨1,by omega,by go_num,keep_trans hbr.out (keep_trans VB.out (show Below V.heap.size V w2 by (repeat (first|assumption|exact Below.refl _ _|refine keep_drew ?_|refine keep_alloc ?_ _|refine keep_trans ?_ (by assumption)))))⟩
   case measure=>simp[intOf]
  by_cases e1:k=1
  ·subst e1
   have g0:=q_cell hq 3
   have g1:=q_cell hq 4
   have g2:=q_cell hq 5
   go_upto_region 4 with fail
   have vsz:(wr.alloc (.cells #[.int .i64 r2,.int .i64 C2,.slice a2 n2 c2] 24)).heap.size=wr.heap.size+1:=by simp only[World.size_alloc]
   have vB:Below wr.heap.size wr (wr.alloc (.cells #[.int .i64 r2,.int .i64 C2,.slice a2 n2 c2] 24)):=(Below.refl _ _).alloc (Nat.le_refl _) _
   have vq0:(wr.alloc (.cells #[.int .i64 r2,.int .i64 C2,.slice a2 n2 c2] 24)).heap[wr.heap.size]?=some (.cells #[.int .i64 r2,.int .i64 C2,.slice a2 n2 c2] 24 (0,0)):=by have h:=World.alloc_heap_new wr (.cells #[.int .i64 r2,.int .i64 C2,.slice a2 n2 c2] 24);exact h
   generalize (wr.alloc (.cells #[.int .i64 r2,.int .i64 C2,.slice a2 n2 c2] 24))=V at vsz vB vq0 ⊢
   have QV:=Lib.hid vq0
   have VB:=Lib.hid vB
   obtain ⟨x0,x1,x2,xl⟩:=c3_of vq0
   clear vq0 vB vsz g0 g1 g2
   go_wp2_with (first|(go_at_call 19;(with_reducible refine (lgreat_c r2 C2 a2 n2 c2 16 _).mono ?_);rintro _ w1 ⟨rfl,hbw1⟩;have hkw1:Below V.heap.size V w1:=(by (repeat (first|assumption|exact Below.refl _ _|refine keep_drew ?_|refine keep_alloc ?_ _|refine keep_trans ?_ (by assumption))));obtain ⟨xw10,xw11,xw12,xw1l⟩:=c3_of (keepq hkw1 QV.out))|(go_at_call 22;(with_reducible refine (HA1.out _ (keep_trans (keep_trans (keep_trans (keep_trans FB.out HB1.out) hbr.out) VB.out) (by (repeat (first|assumption|exact Below.refl _ _|refine keep_drew ?_|refine keep_alloc ?_ _|refine keep_trans ?_ (by assumption)))))).mono ?_);rintro _ w2 ⟨rfl,hbw2⟩;have hkw2:Below V.heap.size V w2:=(by (repeat (first|assumption|exact Below.refl _ _|refine keep_drew ?_|refine keep_alloc ?_ _|refine keep_trans ?_ (by assumption))));obtain ⟨xw20,xw21,xw22,xw2l⟩:=c3_of (keepq hkw2 QV.out))|fail)
   go_roundw
   case rel=>exact ⟨2,by omega,by go_num,keep_trans hbr.out (keep_trans VB.out (show Below V.heap.size V w2 by (repeat (first|assumption|exact Below.refl _ _|refine keep_drew ?_|refine keep_alloc ?_ _|refine keep_trans ?_ (by assumption)))))⟩
   case measure=>simp[intOf]
  by_cases e2:k=2
  ·subst e2
   have g0:=q_cell hq 6
   have g1:=q_cell hq 7
   have g2:=q_cell hq 8
   go_upto_region 4 with fail
   have vsz:(wr.alloc (.cells #[.int .i64 r3,.int .i64 C3,.slice a3 n3 c3] 24)).heap.size=wr.heap.size+1:=by simp only[World.size_alloc]
   have vB:Below wr.heap.size wr (wr.alloc (.cells #[.int .i64 r3,.int .i64 C3,.slice a3 n3 c3] 24)):=(Below.refl _ _).alloc (Nat.le_refl _) _
   have vq0:(wr.alloc (.cells #[.int .i64 r3,.int .i64 C3,.slice a3 n3 c3] 24)).heap[wr.heap.size]?=some (.cells #[.int .i64 r3,.int .i64 C3,.slice a3 n3 c3] 24 (0,0)):=by have h:=World.alloc_heap_new wr (.cells #[.int .i64 r3,.int .i64 C3,.slice a3 n3 c3] 24);exact h
   generalize (wr.alloc (.cells #[.int .i64 r3,.int .i64 C3,.slice a3 n3 c3] 24))=V at vsz vB vq0 ⊢
   have QV:=Lib.hid vq0
   have VB:=Lib.hid vB
   obtain ⟨x0,x1,x2,xl⟩:=c3_of vq0
   clear vq0 vB vsz g0 g1 g2
   go_wp2_with (first|(go_at_call 19;(with_reducible refine (lgreat_c r3 C3 a3 n3 c3 16 _).mono ?_);rintro _ w1 ⟨rfl,hbw1⟩;have hkw1:Below V.heap.size V w1:=(by (repeat (first|assumption|exact Below.refl _ _|refine keep_drew ?_|refine keep_alloc ?_ _|refine keep_trans ?_ (by assumption))));obtain ⟨xw10,xw11,xw12,xw1l⟩:=c3_of (keepq hkw1 QV.out))|(go_at_call 20;refine (awake4_c _).mono ?_;rintro _ wz ⟨rfl,hbz⟩)|fail)
   refine bodyPost_ret (v := .bool true) ?_ rfl ⟨rfl,keep_trans (keep_trans (keep_trans (keep_trans FB.out HB1.out) hbr.out) VB.out) (show Below V.heap.size V wz by (repeat (first|assumption|exact Below.refl _ _|refine keep_drew ?_|refine keep_alloc ?_ _|refine keep_trans ?_ (by assumption))))⟩
   simp[results,Tryz.f13,go_sem]
  ·omega
theorem lprod_c2 (r C:Int) (a:Option Addr) (n c:Nat) (r2 C2:Int) (a2:Option Addr) (n2 c2:Nat) (r3 C3:Int) (a3:Option Addr) (n3 c3:Nat) (w:World) (h0:¬16<n) (h1:¬16<n2) (h2:¬16<n3) (ea:Int) (hea:ea≠0)
  (HA0:∀W,Below w.heap.size w W→Calls Tryz.prog 22 #[.agg #[.int .i64 r,.int .i64 C,.slice a n c]] W fun e w'=>e = .returned (.int .i64 0)∧Below W.heap.size W w')
  (HA1:∀W,Below w.heap.size w W→Calls Tryz.prog 22 #[.agg #[.int .i64 r2,.int .i64 C2,.slice a2 n2 c2]] W fun e w'=>e = .returned (.int .i64 0)∧Below W.heap.size W w')
  (HA2:∀W,Below w.heap.size w W→Calls Tryz.prog 22 #[.agg #[.int .i64 r3,.int .i64 C3,.slice a3 n3 c3]] W fun e w'=>e = .returned (.int .i64 ea)∧Below W.heap.size W w')
  : Calls Tryz.prog 13 #[.agg #[.int .i64 r,.int .i64 C,.slice a n c],.agg #[.int .i64 r2,.int .i64 C2,.slice a2 n2 c2],.agg #[.int .i64 r3,.int .i64 C3,.slice a3 n3 c3]] w fun e w'=>e = .returned (.bool true)∧Below w.heap.size w w':=by
 have hg0:decide ((16:Int)<(n:Int))=false:=decide_eq_false (by omega)
 have hg1:decide ((16:Int)<(n2:Int))=false:=decide_eq_false (by omega)
 have hg2:decide ((16:Int)<(n3:Int))=false:=decide_eq_false (by omega)
 have e1:(ea != 0)=true:=by simpa using hea
 clear hea
 have HA0:=Lib.hid HA0
 have HA1:=Lib.hid HA1
 have HA2:=Lib.hid HA2
 go_enter Tryz.func13,Tryz.ntmps13
 go_upto_region 1 with fail
 have fsz:(((w.alloc (.cells #[.int .i64 r,.int .i64 C,.slice a n c] 24)).alloc (.cells #[.int .i64 r2,.int .i64 C2,.slice a2 n2 c2] 24)).alloc (.cells #[.int .i64 r3,.int .i64 C3,.slice a3 n3 c3] 24)).heap.size=w.heap.size+3:=by simp only[World.size_alloc] <;> omega
 have fB:Below w.heap.size w (((w.alloc (.cells #[.int .i64 r,.int .i64 C,.slice a n c] 24)).alloc (.cells #[.int .i64 r2,.int .i64 C2,.slice a2 n2 c2] 24)).alloc (.cells #[.int .i64 r3,.int .i64 C3,.slice a3 n3 c3] 24)):=(((Below.refl _ _).alloc (Nat.le_refl _) _).alloc (by simp only[World.size_alloc];omega) _).alloc (by simp only[World.size_alloc];omega) _
 have fq0:(((w.alloc (.cells #[.int .i64 r,.int .i64 C,.slice a n c] 24)).alloc (.cells #[.int .i64 r2,.int .i64 C2,.slice a2 n2 c2] 24)).alloc (.cells #[.int .i64 r3,.int .i64 C3,.slice a3 n3 c3] 24)).heap[w.heap.size]?=some (.cells #[.int .i64 r,.int .i64 C,.slice a n c] 24 (0,0)):=by have h:=World.alloc_heap_new w (.cells #[.int .i64 r,.int .i64 C,.slice a n c] 24);exact (Below.heap_alloc _ _ _ (by simp only[World.size_alloc];omega)).trans ((Below.heap_alloc _ _ _ (by simp only[World.size_alloc];omega)).trans (h))
 have fq1:(((w.alloc (.cells #[.int .i64 r,.int .i64 C,.slice a n c] 24)).alloc (.cells #[.int .i64 r2,.int .i64 C2,.slice a2 n2 c2] 24)).alloc (.cells #[.int .i64 r3,.int .i64 C3,.slice a3 n3 c3] 24)).heap[w.heap.size+1]?=some (.cells #[.int .i64 r2,.int .i64 C2,.slice a2 n2 c2] 24 (0,0)):=by have h:=World.alloc_heap_new (w.alloc (.cells #[.int .i64 r,.int .i64 C,.slice a n c] 24)) (.cells #[.int .i64 r2,.int .i64 C2,.slice a2 n2 c2] 24);simp only[World.size_alloc] at h;exact (Below.heap_alloc _ _ _ (by simp only[World.size_alloc];omega)).trans (h)
 have fq2:(((w.alloc (.cells #[.int .i64 r,.int .i64 C,.slice a n c] 24)).alloc (.cells #[.int .i64 r2,.int .i64 C2,.slice a2 n2 c2] 24)).alloc (.cells #[.int .i64 r3,.int .i64 C3,.slice a3 n3 c3] 24)).heap[w.heap.size+1+1]?=some (.cells #[.int .i64 r3,.int .i64 C3,.slice a3 n3 c3] 24 (0,0)):=by have h:=World.alloc_heap_new ((w.alloc (.cells #[.int .i64 r,.int .i64 C,.slice a n c] 24)).alloc (.cells #[.int .i64 r2,.int .i64 C2,.slice a2 n2 c2] 24)) (.cells #[.int .i64 r3,.int .i64 C3,.slice a3 n3 c3] 24);simp only[World.size_alloc] at h;exact h
 generalize (((w.alloc (.cells #[.int .i64 r,.int .i64 C,.slice a n c] 24)).alloc (.cells #[.int .i64 r2,.int .i64 C2,.slice a2 n2 c2] 24)).alloc (.cells #[.int .i64 r3,.int .i64 C3,.slice a3 n3 c3] 24))=W0 at fsz fB fq0 fq1 fq2 ⊢
 have Q0:=Lib.hid fq0
 have Q1:=Lib.hid fq1
 have Q2:=Lib.hid fq2
 have FB:=Lib.hid fB
 obtain ⟨x0,x1,x2,xl⟩:=c3_of fq0
 obtain ⟨y0,y1,y2,yl⟩:=c3_of fq1
 obtain ⟨z0,z1,z2,zl⟩:=c3_of fq2
 clear fq0 fq1 fq2 fsz fB
 go_upto_region 2 with fail
 have hq9:=World.alloc_heap_new W0 (.cells #[.int .i64 r,.int .i64 C,.slice a n c,.int .i64 r2,.int .i64 C2,.slice a2 n2 c2,.int .i64 r3,.int .i64 C3,.slice a3 n3 c3] 24)
 have hb9:Below W0.heap.size W0 (W0.alloc (.cells #[.int .i64 r,.int .i64 C,.slice a n c,.int .i64 r2,.int .i64 C2,.slice a2 n2 c2,.int .i64 r3,.int .i64 C3,.slice a3 n3 c3] 24)):=keep_alloc (Below.refl _ _) _
 generalize (W0.alloc (.cells #[.int .i64 r,.int .i64 C,.slice a n c,.int .i64 r2,.int .i64 C2,.slice a2 n2 c2,.int .i64 r3,.int .i64 C3,.slice a3 n3 c3] 24))=W1 at hq9 hb9 ⊢
 have HQ9:=Lib.hid hq9
 have HB1:=Lib.hid hb9
 clear x0 x1 x2 xl y0 y1 y2 yl z0 z1 z2 zl hq9 hb9
 go_loopw [8,30] (fun _ s30 wr=>∃k:Nat,k≤2∧s30 = .int .i64 (k:Int)∧Hid (Below W1.heap.size W1 wr)) (fun _ s30 _=>3 - (intOf s30).toNat)
 case atStart=>exact ⟨0,by omega,rfl,Below.refl _ _⟩
 case round =>
  obtain ⟨k,hk,rfl,hbr⟩:=hrel
  have hq:=keepq hbr.out HQ9.out
  have hqz:=q_lt hq
  by_cases e0:k=0
  ·subst e0
   have g0:=q_cell hq 0
   have g1:=q_cell hq 1
   have g2:=q_cell hq 2
   go_upto_region 4 with fail
   have vsz:(wr.alloc (.cells #[.int .i64 r,.int .i64 C,.slice a n c] 24)).heap.size=wr.heap.size+1:=by simp only[World.size_alloc]
   have vB:Below wr.heap.size wr (wr.alloc (.cells #[.int .i64 r,.int .i64 C,.slice a n c] 24)):=(Below.refl _ _).alloc (Nat.le_refl _) _
   have vq0:(wr.alloc (.cells #[.int .i64 r,.int .i64 C,.slice a n c] 24)).heap[wr.heap.size]?=some (.cells #[.int .i64 r,.int .i64 C,.slice a n c] 24 (0,0)):=by have h:=World.alloc_heap_new wr (.cells #[.int .i64 r,.int .i64 C,.slice a n c] 24);exact h
   generalize (wr.alloc (.cells #[.int .i64 r,.int .i64 C,.slice a n c] 24))=V at vsz vB vq0 ⊢
   have QV:=Lib.hid vq0
   have VB:=Lib.hid vB
   obtain ⟨x0,x1,x2,xl⟩:=c3_of vq0
   clear vq0 vB vsz g0 g1 g2
   go_wp2_with (first|(go_at_call 19;(with_reducible refine (lgreat_c r C a n c 16 _).mono ?_);rintro _ w1 ⟨rfl,hbw1⟩;have hkw1:Below V.heap.size V w1:=(by (repeat (first|assumption|exact Below.refl _ _|refine keep_drew ?_|refine keep_alloc ?_ _|refine keep_trans ?_ (by assumption))));obtain ⟨xw10,xw11,xw12,xw1l⟩:=c3_of (keepq hkw1 QV.out))|(go_at_call 22;(with_reducible refine (HA0.out _ (keep_trans (keep_trans (keep_trans (keep_trans FB.out HB1.out) hbr.out) VB.out) (by (repeat (first|assumption|exact Below.refl _ _|refine keep_drew ?_|refine keep_alloc ?_ _|refine keep_trans ?_ (by assumption)))))).mono ?_);rintro _ w2 ⟨rfl,hbw2⟩;have hkw2:Below V.heap.size V w2:=(by (repeat (first|assumption|exact Below.refl _ _|refine keep_drew ?_|refine keep_alloc ?_ _|refine keep_trans ?_ (by assumption))));obtain ⟨xw20,xw21,xw22,xw2l⟩:=c3_of (keepq hkw2 QV.out))|fail)
   go_roundw
   case rel=>exact ⟨1,by omega,by go_num,keep_trans hbr.out (keep_trans VB.out (show Below V.heap.size V w2 by (repeat (first|assumption|exact Below.refl _ _|refine keep_drew ?_|refine keep_alloc ?_ _|refine keep_trans ?_ (by assumption)))))⟩
   case measure=>simp[intOf]
  by_cases e1:k=1
  ·subst e1
   have g0:=q_cell hq 3
   have g1:=q_cell hq 4
   have g2:=q_cell hq 5
   go_upto_region 4 with fail
   have vsz:(wr.alloc (.cells #[.int .i64 r2,.int .i64 C2,.slice a2 n2 c2] 24)).heap.size=wr.heap.size+1:=by simp only[World.size_alloc]
   have vB:Below wr.heap.size wr (wr.alloc (.cells #[.int .i64 r2,.int .i64 C2,.slice a2 n2 c2] 24)):=(Below.refl _ _).alloc (Nat.le_refl _) _
   have vq0:(wr.alloc (.cells #[.int .i64 r2,.int .i64 C2,.slice a2 n2 c2] 24)).heap[wr.heap.size]?=some (.cells #[.int .i64 r2,.int .i64 C2,.slice a2 n2 c2] 24 (0,0)):=by have h:=World.alloc_heap_new wr (.cells #[.int .i64 r2,.int .i64 C2,.slice a2 n2 c2] 24);exact h
   generalize (wr.alloc (.cells #[.int .i64 r2,.int .i64 C2,.slice a2 n2 c2] 24))=V at vsz vB vq0 ⊢
   have QV:=Lib.hid vq0
   have VB:=Lib.hid vB
   obtain ⟨x0,x1,x2,xl⟩:=c3_of vq0
   clear vq0 vB vsz g0 g1 g2
   go_wp2_with (first|(go_at_call 19;(with_reducible refine (lgreat_c r2 C2 a2 n2 c2 16 _).mono ?_);rintro _ w1 ⟨rfl,hbw1⟩;have hkw1:Below V.heap.size V w1:=(by (repeat (first|assumption|exact Below.refl _ _|refine keep_drew ?_|refine keep_alloc ?_ _|refine keep_trans ?_ (by assumption))));obtain ⟨xw10,xw11,xw12,xw1l⟩:=c3_of (keepq hkw1 QV.out))|(go_at_call 22;(with_reducible refine (HA1.out _ (keep_trans (keep_trans (keep_trans (keep_trans FB.out HB1.out) hbr.out) VB.out) (by (repeat (first|assumption|exact Below.refl _ _|refine keep_drew ?_|refine keep_alloc ?_ _|refine keep_trans ?_ (by assumption)))))).mono ?_);rintro _ w2 ⟨rfl,hbw2⟩;have hkw2:Below V.heap.size V w2:=(by (repeat (first|assumption|exact Below.refl _ _|refine keep_drew ?_|refine keep_alloc ?_ _|refine keep_trans ?_ (by assumption))));obtain ⟨xw20,xw21,xw22,xw2l⟩:=c3_of (keepq hkw2 QV.out))|fail)
   go_roundw
   case rel=>exact ⟨2,by omega,by go_num,keep_trans hbr.out (keep_trans VB.out (show Below V.heap.size V w2 by (repeat (first|assumption|exact Below.refl _ _|refine keep_drew ?_|refine keep_alloc ?_ _|refine keep_trans ?_ (by assumption)))))⟩
   case measure=>simp[intOf]
  by_cases e2:k=2
  ·subst e2
   have g0:=q_cell hq 6
   have g1:=q_cell hq 7
   have g2:=q_cell hq 8
   go_upto_region 4 with fail
   have vsz:(wr.alloc (.cells #[.int .i64 r3,.int .i64 C3,.slice a3 n3 c3] 24)).heap.size=wr.heap.size+1:=by simp only[World.size_alloc]
   have vB:Below wr.heap.size wr (wr.alloc (.cells #[.int .i64 r3,.int .i64 C3,.slice a3 n3 c3] 24)):=(Below.refl _ _).alloc (Nat.le_refl _) _
   have vq0:(wr.alloc (.cells #[.int .i64 r3,.int .i64 C3,.slice a3 n3 c3] 24)).heap[wr.heap.size]?=some (.cells #[.int .i64 r3,.int .i64 C3,.slice a3 n3 c3] 24 (0,0)):=by have h:=World.alloc_heap_new wr (.cells #[.int .i64 r3,.int .i64 C3,.slice a3 n3 c3] 24);exact h
   generalize (wr.alloc (.cells #[.int .i64 r3,.int .i64 C3,.slice a3 n3 c3] 24))=V at vsz vB vq0 ⊢
   have QV:=Lib.hid vq0
   have VB:=Lib.hid vB
   obtain ⟨x0,x1,x2,xl⟩:=c3_of vq0
   clear vq0 vB vsz g0 g1 g2
   go_wp2_with (first|(go_at_call 19;(with_reducible refine (lgreat_c r3 C3 a3 n3 c3 16 _).mono ?_);rintro _ w1 ⟨rfl,hbw1⟩;have hkw1:Below V.heap.size V w1:=(by (repeat (first|assumption|exact Below.refl _ _|refine keep_drew ?_|refine keep_alloc ?_ _|refine keep_trans ?_ (by assumption))));obtain ⟨xw10,xw11,xw12,xw1l⟩:=c3_of (keepq hkw1 QV.out))|(go_at_call 22;(with_reducible refine (HA2.out _ (keep_trans (keep_trans (keep_trans (keep_trans FB.out HB1.out) hbr.out) VB.out) (by (repeat (first|assumption|exact Below.refl _ _|refine keep_drew ?_|refine keep_alloc ?_ _|refine keep_trans ?_ (by assumption)))))).mono ?_);rintro _ w2 ⟨rfl,hbw2⟩;have hkw2:Below V.heap.size V w2:=(by (repeat (first|assumption|exact Below.refl _ _|refine keep_drew ?_|refine keep_alloc ?_ _|refine keep_trans ?_ (by assumption))));obtain ⟨xw20,xw21,xw22,xw2l⟩:=c3_of (keepq hkw2 QV.out))|(go_at_call 20;refine (awake4_c _).mono ?_;rintro _ wz ⟨rfl,hbz⟩)|fail)
   refine bodyPost_ret (v := .bool true) ?_ rfl ⟨rfl,keep_trans (keep_trans (keep_trans (keep_trans FB.out HB1.out) hbr.out) VB.out) (show Below V.heap.size V wz by (repeat (first|assumption|exact Below.refl _ _|refine keep_drew ?_|refine keep_alloc ?_ _|refine keep_trans ?_ (by assumption))))⟩
   simp[results,Tryz.f13,go_sem]
  ·omega
theorem lprod_nt (N M K:Nat) (a:Option Addr) (n c:Nat) (a2:Option Addr) (n2 c2:Nat) (a3:Option Addr) (n3 c3:Nat) (w:World) (h0:¬16<n) (h1:¬16<n2) (h2:¬16<n3) (p pp:Nat) (hp:(N:Int)*(M:Int)=(p:Int)) (hp16:p≤16) (X:List Int) (lA lB lP:List ByteArray) (kB:Bool) (eA:lA.any isGr=true) (eB:lB.any isGr=kB) (eP:lP.any isGr=(true&&kB)) (hKN:((K:Int) != (N:Int))=true)
  (HA0:∀W,Below w.heap.size w W→Calls Tryz.prog 22 #[.agg #[.int .i64 (N:Int),.int .i64 (N:Int),.slice a n c]] W fun e w'=>e = .returned (.int .i64 0)∧Below W.heap.size W w')
  (HA1:∀W,Below w.heap.size w W→Calls Tryz.prog 22 #[.agg #[.int .i64 (M:Int),.int .i64 (M:Int),.slice a2 n2 c2]] W fun e w'=>e = .returned (.int .i64 0)∧Below W.heap.size W w')
  (HA2:∀W,Below w.heap.size w W→Calls Tryz.prog 22 #[.agg #[.int .i64 (K:Int),.int .i64 (K:Int),.slice a3 n3 c3]] W fun e w'=>e = .returned (.int .i64 0)∧Below W.heap.size W w')
  (HP:∀W,Below w.heap.size w W→Calls Tryz.prog 71 #[.agg #[.int .i64 (N:Int),.int .i64 (N:Int),.slice a n c],.agg #[.int .i64 (M:Int),.int .i64 (M:Int),.slice a2 n2 c2]] W fun e w'=>∃a4 c4,e = .returned (.tuple #[.agg #[.int .i64 (p:Int),.int .i64 (p:Int),.slice a4 pp c4],.int .i64 0])∧IC w' a4 pp X∧pp≤c4∧Below W.heap.size W w')
  (HPC:∀W a4 c4,IC W a4 pp X→Calls Tryz.prog 22 #[.agg #[.int .i64 (p:Int),.int .i64 (p:Int),.slice a4 pp c4]] W fun e w'=>e = .returned (.int .i64 0)∧Below W.heap.size W w')
  (HKA:∀W,Below w.heap.size w W→Calls Tryz.prog 72 #[.agg #[.int .i64 (N:Int),.int .i64 (N:Int),.slice a n c]] W fun e w'=>∃a5 k5 c5,e = .returned (.tuple #[.slice a5 k5 c5,.int .i64 0])∧SC w' a5 k5 lA∧Below W.heap.size W w')
  (HKB:∀W,Below w.heap.size w W→Calls Tryz.prog 72 #[.agg #[.int .i64 (M:Int),.int .i64 (M:Int),.slice a2 n2 c2]] W fun e w'=>∃a5 k5 c5,e = .returned (.tuple #[.slice a5 k5 c5,.int .i64 0])∧SC w' a5 k5 lB∧Below W.heap.size W w')
  (HKP:∀W a4 c4,IC W a4 pp X→pp≤c4→Calls Tryz.prog 72 #[.agg #[.int .i64 (p:Int),.int .i64 (p:Int),.slice a4 pp c4]] W fun e w'=>∃a5 k5 c5,e = .returned (.tuple #[.slice a5 k5 c5,.int .i64 0])∧SC w' a5 k5 lP∧Below W.heap.size W w')
  : Calls Tryz.prog 13 #[.agg #[.int .i64 (N:Int),.int .i64 (N:Int),.slice a n c],.agg #[.int .i64 (M:Int),.int .i64 (M:Int),.slice a2 n2 c2],.agg #[.int .i64 (K:Int),.int .i64 (K:Int),.slice a3 n3 c3]] w fun e w'=>e = .returned (.bool true)∧Below w.heap.size w w':=by
 have hg0:decide ((16:Int)<(n:Int))=false:=decide_eq_false (by omega)
 have hg1:decide ((16:Int)<(n2:Int))=false:=decide_eq_false (by omega)
 have hg2:decide ((16:Int)<(n3:Int))=false:=decide_eq_false (by omega)
 have HA0:=Lib.hid HA0
 have HA1:=Lib.hid HA1
 have HA2:=Lib.hid HA2
 have HP:=Lib.hid HP
 have HPC:=Lib.hid HPC
 have HKA:=Lib.hid HKA
 have HKB:=Lib.hid HKB
 have HKP:=Lib.hid HKP
 have EA:=Lib.hid eA
 have EB:=Lib.hid eB
 have EP:=Lib.hid eP
 have hpn:((p:Int) != (p:Int))=false:=by simp
 have hkk:(kB != kB)=false:=by cases kB <;> rfl
 clear eA eB eP
 go_enter Tryz.func13,Tryz.ntmps13
 go_upto_region 1 with fail
 have fsz:(((w.alloc (.cells #[.int .i64 (N:Int),.int .i64 (N:Int),.slice a n c] 24)).alloc (.cells #[.int .i64 (M:Int),.int .i64 (M:Int),.slice a2 n2 c2] 24)).alloc (.cells #[.int .i64 (K:Int),.int .i64 (K:Int),.slice a3 n3 c3] 24)).heap.size=w.heap.size+3:=by simp only[World.size_alloc] <;> omega
 have fB:Below w.heap.size w (((w.alloc (.cells #[.int .i64 (N:Int),.int .i64 (N:Int),.slice a n c] 24)).alloc (.cells #[.int .i64 (M:Int),.int .i64 (M:Int),.slice a2 n2 c2] 24)).alloc (.cells #[.int .i64 (K:Int),.int .i64 (K:Int),.slice a3 n3 c3] 24)):=(((Below.refl _ _).alloc (Nat.le_refl _) _).alloc (by simp only[World.size_alloc];omega) _).alloc (by simp only[World.size_alloc];omega) _
 have fq0:(((w.alloc (.cells #[.int .i64 (N:Int),.int .i64 (N:Int),.slice a n c] 24)).alloc (.cells #[.int .i64 (M:Int),.int .i64 (M:Int),.slice a2 n2 c2] 24)).alloc (.cells #[.int .i64 (K:Int),.int .i64 (K:Int),.slice a3 n3 c3] 24)).heap[w.heap.size]?=some (.cells #[.int .i64 (N:Int),.int .i64 (N:Int),.slice a n c] 24 (0,0)):=by have h:=World.alloc_heap_new w (.cells #[.int .i64 (N:Int),.int .i64 (N:Int),.slice a n c] 24);exact (Below.heap_alloc _ _ _ (by simp only[World.size_alloc];omega)).trans ((Below.heap_alloc _ _ _ (by simp only[World.size_alloc];omega)).trans (h))
 have fq1:(((w.alloc (.cells #[.int .i64 (N:Int),.int .i64 (N:Int),.slice a n c] 24)).alloc (.cells #[.int .i64 (M:Int),.int .i64 (M:Int),.slice a2 n2 c2] 24)).alloc (.cells #[.int .i64 (K:Int),.int .i64 (K:Int),.slice a3 n3 c3] 24)).heap[w.heap.size+1]?=some (.cells #[.int .i64 (M:Int),.int .i64 (M:Int),.slice a2 n2 c2] 24 (0,0)):=by have h:=World.alloc_heap_new (w.alloc (.cells #[.int .i64 (N:Int),.int .i64 (N:Int),.slice a n c] 24)) (.cells #[.int .i64 (M:Int),.int .i64 (M:Int),.slice a2 n2 c2] 24);simp only[World.size_alloc] at h;exact (Below.heap_alloc _ _ _ (by simp only[World.size_alloc];omega)).trans (h)
 have fq2:(((w.alloc (.cells #[.int .i64 (N:Int),.int .i64 (N:Int),.slice a n c] 24)).alloc (.cells #[.int .i64 (M:Int),.int .i64 (M:Int),.slice a2 n2 c2] 24)).alloc (.cells #[.int .i64 (K:Int),.int .i64 (K:Int),.slice a3 n3 c3] 24)).heap[w.heap.size+1+1]?=some (.cells #[.int .i64 (K:Int),.int .i64 (K:Int),.slice a3 n3 c3] 24 (0,0)):=by have h:=World.alloc_heap_new ((w.alloc (.cells #[.int .i64 (N:Int),.int .i64 (N:Int),.slice a n c] 24)).alloc (.cells #[.int .i64 (M:Int),.int .i64 (M:Int),.slice a2 n2 c2] 24)) (.cells #[.int .i64 (K:Int),.int .i64 (K:Int),.slice a3 n3 c3] 24);simp only[World.size_alloc] at h;exact h
 generalize (((w.alloc (.cells #[.int .i64 (N:Int),.int .i64 (N:Int),.slice a n c] 24)).alloc (.cells #[.int .i64 (M:Int),.int .i64 (M:Int),.slice a2 n2 c2] 24)).alloc (.cells #[.int .i64 (K:Int),.int .i64 (K:Int),.slice a3 n3 c3] 24))=W0 at fsz fB fq0 fq1 fq2 ⊢
 have Q0:=Lib.hid fq0
 have Q1:=Lib.hid fq1
 have Q2:=Lib.hid fq2
 have FB:=Lib.hid fB
 obtain ⟨x0,x1,x2,xl⟩:=c3_of fq0
 obtain ⟨y0,y1,y2,yl⟩:=c3_of fq1
 obtain ⟨z0,z1,z2,zl⟩:=c3_of fq2
 clear fq0 fq1 fq2 fsz fB
 go_upto_region 2 with fail
 have hq9:=World.alloc_heap_new W0 (.cells #[.int .i64 (N:Int),.int .i64 (N:Int),.slice a n c,.int .i64 (M:Int),.int .i64 (M:Int),.slice a2 n2 c2,.int .i64 (K:Int),.int .i64 (K:Int),.slice a3 n3 c3] 24)
 have hb9:Below W0.heap.size W0 (W0.alloc (.cells #[.int .i64 (N:Int),.int .i64 (N:Int),.slice a n c,.int .i64 (M:Int),.int .i64 (M:Int),.slice a2 n2 c2,.int .i64 (K:Int),.int .i64 (K:Int),.slice a3 n3 c3] 24)):=keep_alloc (Below.refl _ _) _
 generalize (W0.alloc (.cells #[.int .i64 (N:Int),.int .i64 (N:Int),.slice a n c,.int .i64 (M:Int),.int .i64 (M:Int),.slice a2 n2 c2,.int .i64 (K:Int),.int .i64 (K:Int),.slice a3 n3 c3] 24))=W1 at hq9 hb9 ⊢
 have HQ9:=Lib.hid hq9
 have HB1:=Lib.hid hb9
 clear x0 x1 x2 xl y0 y1 y2 yl z0 z1 z2 zl hq9 hb9
 go_loopw [8,30] (fun _ s30 wr=>∃k:Nat,k≤3∧s30 = .int .i64 (k:Int)∧Hid (Below W1.heap.size W1 wr)) (fun _ s30 _=>3 - (intOf s30).toNat)
 case atStart=>exact ⟨0,by omega,rfl,Below.refl _ _⟩
 case round =>
  obtain ⟨k,hk,rfl,hbr⟩:=hrel
  have hq:=keepq hbr.out HQ9.out
  have hqz:=q_lt hq
  by_cases e0:k=0
  ·subst e0
   have g0:=q_cell hq 0
   have g1:=q_cell hq 1
   have g2:=q_cell hq 2
   go_upto_region 4 with fail
   have vsz:(wr.alloc (.cells #[.int .i64 (N:Int),.int .i64 (N:Int),.slice a n c] 24)).heap.size=wr.heap.size+1:=by simp only[World.size_alloc]
   have vB:Below wr.heap.size wr (wr.alloc (.cells #[.int .i64 (N:Int),.int .i64 (N:Int),.slice a n c] 24)):=(Below.refl _ _).alloc (Nat.le_refl _) _
   have vq0:(wr.alloc (.cells #[.int .i64 (N:Int),.int .i64 (N:Int),.slice a n c] 24)).heap[wr.heap.size]?=some (.cells #[.int .i64 (N:Int),.int .i64 (N:Int),.slice a n c] 24 (0,0)):=by have h:=World.alloc_heap_new wr (.cells #[.int .i64 (N:Int),.int .i64 (N:Int),.slice a n c] 24);exact h
   generalize (wr.alloc (.cells #[.int .i64 (N:Int),.int .i64 (N:Int),.slice a n c] 24))=V at vsz vB vq0 ⊢
   have QV:=Lib.hid vq0
   have VB:=Lib.hid vB
   obtain ⟨x0,x1,x2,xl⟩:=c3_of vq0
   clear vq0 vB vsz g0 g1 g2
   go_wp2_with (first|(go_at_call 19;(with_reducible refine (lgreat_c (N:Int) (N:Int) a n c 16 _).mono ?_);rintro _ w1 ⟨rfl,hbw1⟩;have hkw1:Below V.heap.size V w1:=(by (repeat (first|assumption|exact Below.refl _ _|refine keep_drew ?_|refine keep_alloc ?_ _|refine keep_trans ?_ (by assumption))));obtain ⟨xw10,xw11,xw12,xw1l⟩:=c3_of (keepq hkw1 QV.out))|(go_at_call 22;(with_reducible refine (HA0.out _ (keep_trans (keep_trans (keep_trans (keep_trans FB.out HB1.out) hbr.out) VB.out) (by (repeat (first|assumption|exact Below.refl _ _|refine keep_drew ?_|refine keep_alloc ?_ _|refine keep_trans ?_ (by assumption)))))).mono ?_);rintro _ w2 ⟨rfl,hbw2⟩;have hkw2:Below V.heap.size V w2:=(by (repeat (first|assumption|exact Below.refl _ _|refine keep_drew ?_|refine keep_alloc ?_ _|refine keep_trans ?_ (by assumption))));obtain ⟨xw20,xw21,xw22,xw2l⟩:=c3_of (keepq hkw2 QV.out))|fail)
   go_roundw
   case rel=>exact ⟨1,by omega,by go_num,keep_trans hbr.out (keep_trans VB.out (show Below V.heap.size V w2 by (repeat (first|assumption|exact Below.refl _ _|refine keep_drew ?_|refine keep_alloc ?_ _|refine keep_trans ?_ (by assumption)))))⟩
   case measure=>simp[intOf]
  by_cases e1:k=1
  ·subst e1
   have g0:=q_cell hq 3
   have g1:=q_cell hq 4
   have g2:=q_cell hq 5
   go_upto_region 4 with fail
   have vsz:(wr.alloc (.cells #[.int .i64 (M:Int),.int .i64 (M:Int),.slice a2 n2 c2] 24)).heap.size=wr.heap.size+1:=by simp only[World.size_alloc]
   have vB:Below wr.heap.size wr (wr.alloc (.cells #[.int .i64 (M:Int),.int .i64 (M:Int),.slice a2 n2 c2] 24)):=(Below.refl _ _).alloc (Nat.le_refl _) _
   have vq0:(wr.alloc (.cells #[.int .i64 (M:Int),.int .i64 (M:Int),.slice a2 n2 c2] 24)).heap[wr.heap.size]?=some (.cells #[.int .i64 (M:Int),.int .i64 (M:Int),.slice a2 n2 c2] 24 (0,0)):=by have h:=World.alloc_heap_new wr (.cells #[.int .i64 (M:Int),.int .i64 (M:Int),.slice a2 n2 c2] 24);exact h
   generalize (wr.alloc (.cells #[.int .i64 (M:Int),.int .i64 (M:Int),.slice a2 n2 c2] 24))=V at vsz vB vq0 ⊢
   have QV:=Lib.hid vq0
   have VB:=Lib.hid vB
   obtain ⟨x0,x1,x2,xl⟩:=c3_of vq0
   clear vq0 vB vsz g0 g1 g2
   go_wp2_with (first|(go_at_call 19;(with_reducible refine (lgreat_c (M:Int) (M:Int) a2 n2 c2 16 _).mono ?_);rintro _ w1 ⟨rfl,hbw1⟩;have hkw1:Below V.heap.size V w1:=(by (repeat (first|assumption|exact Below.refl _ _|refine keep_drew ?_|refine keep_alloc ?_ _|refine keep_trans ?_ (by assumption))));obtain ⟨xw10,xw11,xw12,xw1l⟩:=c3_of (keepq hkw1 QV.out))|(go_at_call 22;(with_reducible refine (HA1.out _ (keep_trans (keep_trans (keep_trans (keep_trans FB.out HB1.out) hbr.out) VB.out) (by (repeat (first|assumption|exact Below.refl _ _|refine keep_drew ?_|refine keep_alloc ?_ _|refine keep_trans ?_ (by assumption)))))).mono ?_);rintro _ w2 ⟨rfl,hbw2⟩;have hkw2:Below V.heap.size V w2:=(by (repeat (first|assumption|exact Below.refl _ _|refine keep_drew ?_|refine keep_alloc ?_ _|refine keep_trans ?_ (by assumption))));obtain ⟨xw20,xw21,xw22,xw2l⟩:=c3_of (keepq hkw2 QV.out))|fail)
   go_roundw
   case rel=>exact ⟨2,by omega,by go_num,keep_trans hbr.out (keep_trans VB.out (show Below V.heap.size V w2 by (repeat (first|assumption|exact Below.refl _ _|refine keep_drew ?_|refine keep_alloc ?_ _|refine keep_trans ?_ (by assumption)))))⟩
   case measure=>simp[intOf]
  by_cases e2:k=2
  ·subst e2
   have g0:=q_cell hq 6
   have g1:=q_cell hq 7
   have g2:=q_cell hq 8
   go_upto_region 4 with fail
   have vsz:(wr.alloc (.cells #[.int .i64 (K:Int),.int .i64 (K:Int),.slice a3 n3 c3] 24)).heap.size=wr.heap.size+1:=by simp only[World.size_alloc]
   have vB:Below wr.heap.size wr (wr.alloc (.cells #[.int .i64 (K:Int),.int .i64 (K:Int),.slice a3 n3 c3] 24)):=(Below.refl _ _).alloc (Nat.le_refl _) _
   have vq0:(wr.alloc (.cells #[.int .i64 (K:Int),.int .i64 (K:Int),.slice a3 n3 c3] 24)).heap[wr.heap.size]?=some (.cells #[.int .i64 (K:Int),.int .i64 (K:Int),.slice a3 n3 c3] 24 (0,0)):=by have h:=World.alloc_heap_new wr (.cells #[.int .i64 (K:Int),.int .i64 (K:Int),.slice a3 n3 c3] 24);exact h
   generalize (wr.alloc (.cells #[.int .i64 (K:Int),.int .i64 (K:Int),.slice a3 n3 c3] 24))=V at vsz vB vq0 ⊢
   have QV:=Lib.hid vq0
   have VB:=Lib.hid vB
   obtain ⟨x0,x1,x2,xl⟩:=c3_of vq0
   clear vq0 vB vsz g0 g1 g2
   go_wp2_with (first|(go_at_call 19;(with_reducible refine (lgreat_c (K:Int) (K:Int) a3 n3 c3 16 _).mono ?_);rintro _ w1 ⟨rfl,hbw1⟩;have hkw1:Below V.heap.size V w1:=(by (repeat (first|assumption|exact Below.refl _ _|refine keep_drew ?_|refine keep_alloc ?_ _|refine keep_trans ?_ (by assumption))));obtain ⟨xw10,xw11,xw12,xw1l⟩:=c3_of (keepq hkw1 QV.out))|(go_at_call 22;(with_reducible refine (HA2.out _ (keep_trans (keep_trans (keep_trans (keep_trans FB.out HB1.out) hbr.out) VB.out) (by (repeat (first|assumption|exact Below.refl _ _|refine keep_drew ?_|refine keep_alloc ?_ _|refine keep_trans ?_ (by assumption)))))).mono ?_);rintro _ w2 ⟨rfl,hbw2⟩;have hkw2:Below V.heap.size V w2:=(by (repeat (first|assumption|exact Below.refl _ _|refine keep_drew ?_|refine keep_alloc ?_ _|refine keep_trans ?_ (by assumption))));obtain ⟨xw20,xw21,xw22,xw2l⟩:=c3_of (keepq hkw2 QV.out))|fail)
   go_roundw
   case rel=>exact ⟨3,by omega,by go_num,keep_trans hbr.out (keep_trans VB.out (show Below V.heap.size V w2 by (repeat (first|assumption|exact Below.refl _ _|refine keep_drew ?_|refine keep_alloc ?_ _|refine keep_trans ?_ (by assumption)))))⟩
   case measure=>simp[intOf]
  by_cases e3:k=3
  ·subst e3
   have HBR:=Lib.hid (keep_trans (keep_trans FB.out HB1.out) hbr.out)
   have hb0r:=keep_trans HB1.out hbr.out
   have P0:=Lib.hid (keepq hb0r Q0.out)
   have P1:=Lib.hid (keepq hb0r Q1.out)
   have P2:=Lib.hid (keepq hb0r Q2.out)
   clear hq hqz hb0r hbr
   obtain ⟨x0,x1,x2,xl⟩:=c3_of P0.out
   obtain ⟨y0,y1,y2,yl⟩:=c3_of P1.out
   obtain ⟨z0,z1,z2,zl⟩:=c3_of P2.out
   go_upto_region 8 with (first|(go_at_call 71;(with_reducible refine (HP.out _ HBR.out).mono ?_);rintro _ w2 ⟨a4,c4,rfl,hi4,hc4,hb2⟩)|fail)
   have gsz:(w2.alloc (.cells #[.int .i64 (p:Int),.int .i64 (p:Int),.slice a4 pp c4] 24)).heap.size=w2.heap.size+1:=by simp only[World.size_alloc]
   have gB:Below w2.heap.size w2 (w2.alloc (.cells #[.int .i64 (p:Int),.int .i64 (p:Int),.slice a4 pp c4] 24)):=(Below.refl _ _).alloc (Nat.le_refl _) _
   have gq0:(w2.alloc (.cells #[.int .i64 (p:Int),.int .i64 (p:Int),.slice a4 pp c4] 24)).heap[w2.heap.size]?=some (.cells #[.int .i64 (p:Int),.int .i64 (p:Int),.slice a4 pp c4] 24 (0,0)):=by have h:=World.alloc_heap_new w2 (.cells #[.int .i64 (p:Int),.int .i64 (p:Int),.slice a4 pp c4] 24);exact h
   generalize (w2.alloc (.cells #[.int .i64 (p:Int),.int .i64 (p:Int),.slice a4 pp c4] 24))=V3 at gsz gB gq0 ⊢
   have hb23:=keep_trans hb2 gB
   have Q3:=Lib.hid gq0
   have Q0:=Lib.hid (keepq hb23 P0.out)
   have Q1:=Lib.hid (keepq hb23 P1.out)
   have Q2:=Lib.hid (keepq hb23 P2.out)
   have HB3:=Lib.hid (keep_trans HBR.out hb23)
   have HI3:=Lib.hid (hi4.mono gB)
   clear gsz gq0 gB hb2 hi4 hb23 x0 x1 x2 xl y0 y1 y2 yl z0 z1 z2 zl
   obtain ⟨x0,x1,x2,xl⟩:=c3_of Q0.out
   obtain ⟨y0,y1,y2,yl⟩:=c3_of Q1.out
   obtain ⟨z0,z1,z2,zl⟩:=c3_of Q2.out
   obtain ⟨g0,g1,g2,gl⟩:=c3_of Q3.out
   go_upto_region 13 with (first|(go_at_call 22;(with_reducible refine (HPC.out _ _ _ HI3.out).mono ?_);rintro _ v1 ⟨rfl,hbv1⟩;have hkv1:Below V3.heap.size V3 v1:=(by (repeat (first|assumption|exact Below.refl _ _|refine keep_drew ?_|refine keep_alloc ?_ _|refine keep_trans ?_ (by assumption))));obtain ⟨xv10,xv11,xv12,xv1l⟩:=c3_of (keepq hkv1 Q0.out);obtain ⟨yv10,yv11,yv12,yv1l⟩:=c3_of (keepq hkv1 Q1.out);obtain ⟨zv10,zv11,zv12,zv1l⟩:=c3_of (keepq hkv1 Q2.out);obtain ⟨gv10,gv11,gv12,gv1l⟩:=c3_of (keepq hkv1 Q3.out))|(go_at_call 72;(with_reducible refine (HKA.out _ (keep_trans HB3.out (by (repeat (first|assumption|exact Below.refl _ _|refine keep_drew ?_|refine keep_alloc ?_ _|refine keep_trans ?_ (by assumption)))))).mono ?_);rintro _ v2 ⟨aA,nA,cA,rfl,sA,hbv2⟩;have hkv2:Below V3.heap.size V3 v2:=(by (repeat (first|assumption|exact Below.refl _ _|refine keep_drew ?_|refine keep_alloc ?_ _|refine keep_trans ?_ (by assumption))));obtain ⟨xv20,xv21,xv22,xv2l⟩:=c3_of (keepq hkv2 Q0.out);obtain ⟨yv20,yv21,yv22,yv2l⟩:=c3_of (keepq hkv2 Q1.out);obtain ⟨zv20,zv21,zv22,zv2l⟩:=c3_of (keepq hkv2 Q2.out);obtain ⟨gv20,gv21,gv22,gv2l⟩:=c3_of (keepq hkv2 Q3.out))|(go_at_call 72;(with_reducible refine (HKB.out _ (keep_trans HB3.out (by (repeat (first|assumption|exact Below.refl _ _|refine keep_drew ?_|refine keep_alloc ?_ _|refine keep_trans ?_ (by assumption)))))).mono ?_);rintro _ v3 ⟨aB,nB,cB,rfl,sB,hbv3⟩;have hkv3:Below V3.heap.size V3 v3:=(by (repeat (first|assumption|exact Below.refl _ _|refine keep_drew ?_|refine keep_alloc ?_ _|refine keep_trans ?_ (by assumption))));obtain ⟨xv30,xv31,xv32,xv3l⟩:=c3_of (keepq hkv3 Q0.out);obtain ⟨yv30,yv31,yv32,yv3l⟩:=c3_of (keepq hkv3 Q1.out);obtain ⟨zv30,zv31,zv32,zv3l⟩:=c3_of (keepq hkv3 Q2.out);obtain ⟨gv30,gv31,gv32,gv3l⟩:=c3_of (keepq hkv3 Q3.out))|(go_at_call 72;(with_reducible refine (HKP.out _ _ _ (HI3.out.mono (by (repeat (first|assumption|exact Below.refl _ _|refine keep_drew ?_|refine keep_alloc ?_ _|refine keep_trans ?_ (by assumption))))) hc4).mono ?_);rintro _ v4 ⟨aP,nP,cP,rfl,sP,hbv4⟩;have hkv4:Below V3.heap.size V3 v4:=(by (repeat (first|assumption|exact Below.refl _ _|refine keep_drew ?_|refine keep_alloc ?_ _|refine keep_trans ?_ (by assumption))));obtain ⟨xv40,xv41,xv42,xv4l⟩:=c3_of (keepq hkv4 Q0.out);obtain ⟨yv40,yv41,yv42,yv4l⟩:=c3_of (keepq hkv4 Q1.out);obtain ⟨zv40,zv41,zv42,zv4l⟩:=c3_of (keepq hkv4 Q2.out);obtain ⟨gv40,gv41,gv42,gv4l⟩:=c3_of (keepq hkv4 Q3.out))|fail)
   have hB4:Below V3.heap.size V3 v4:=by (repeat (first|assumption|exact Below.refl _ _|refine keep_drew ?_|refine keep_alloc ?_ _|refine keep_trans ?_ (by assumption)))
   have sA4:SC v4 aA nA lA:=sA.mono (keep_trans hbv3 hbv4)
   have sB4:SC v4 aB nB lB:=sB.mono hbv4
   have HHA:=Lib.hid (fun W (hb:Below v4.heap.size v4 W)=>lhas_c aA nA cA lA W (sA4.mono hb))
   have HHB:=Lib.hid (fun W (hb:Below v4.heap.size v4 W)=>lhas_c aB nB cB lB W (sB4.mono hb))
   have HHP:=Lib.hid (fun W (hb:Below v4.heap.size v4 W)=>lhas_c aP nP cP lP W (sP.mono hb))
   rw[EA.out] at HHA
   rw[EB.out] at HHB
   rw[EP.out] at HHP
   have R0:=Lib.hid (keepq hB4 Q0.out)
   have R1:=Lib.hid (keepq hB4 Q1.out)
   have R2:=Lib.hid (keepq hB4 Q2.out)
   have R3:=Lib.hid (keepq hB4 Q3.out)
   have HB4:=Lib.hid (keep_trans HB3.out hB4)
   have HI4:=Lib.hid (HI3.out.mono hB4)
   clear x0 x1 x2 xl y0 y1 y2 yl z0 z1 z2 zl g0 g1 g2 gl
   clear xv10 xv11 xv12 xv1l yv10 yv11 yv12 yv1l zv10 zv11 zv12 zv1l gv10 gv11 gv12 gv1l xv20 xv21 xv22 xv2l yv20 yv21 yv22 yv2l zv20 zv21 zv22 zv2l gv20 gv21 gv22 gv2l xv30 xv31 xv32 xv3l yv30 yv31 yv32 yv3l zv30 zv31 zv32 zv3l gv30 gv31 gv32 gv3l xv40 xv41 xv42 xv4l yv40 yv41 yv42 yv4l zv40 zv41 zv42 zv4l gv40 gv41 gv42 gv4l hkv1 hbv1 hkv2 hbv2 hkv3 hbv3 hkv4 hbv4 hB4 sA sB sP sA4 sB4
   obtain ⟨x0,x1,x2,xl⟩:=c3_of R0.out
   obtain ⟨y0,y1,y2,yl⟩:=c3_of R1.out
   obtain ⟨z0,z1,z2,zl⟩:=c3_of R2.out
   obtain ⟨g0,g1,g2,gl⟩:=c3_of R3.out
   go_wp2_with (first|(go_at_call 73;(with_reducible refine (HHA.out _ (by (repeat (first|assumption|exact Below.refl _ _|refine keep_drew ?_|refine keep_alloc ?_ _|refine keep_trans ?_ (by assumption))))).mono ?_);rintro _ u1 ⟨rfl,hbu1⟩;have hku1:Below v4.heap.size v4 u1:=(by (repeat (first|assumption|exact Below.refl _ _|refine keep_drew ?_|refine keep_alloc ?_ _|refine keep_trans ?_ (by assumption))));obtain ⟨xu10,xu11,xu12,xu1l⟩:=c3_of (keepq hku1 R0.out);obtain ⟨yu10,yu11,yu12,yu1l⟩:=c3_of (keepq hku1 R1.out);obtain ⟨zu10,zu11,zu12,zu1l⟩:=c3_of (keepq hku1 R2.out);obtain ⟨gu10,gu11,gu12,gu1l⟩:=c3_of (keepq hku1 R3.out))|(go_at_call 73;(with_reducible refine (HHB.out _ (by (repeat (first|assumption|exact Below.refl _ _|refine keep_drew ?_|refine keep_alloc ?_ _|refine keep_trans ?_ (by assumption))))).mono ?_);rintro _ u2 ⟨rfl,hbu2⟩;have hku2:Below v4.heap.size v4 u2:=(by (repeat (first|assumption|exact Below.refl _ _|refine keep_drew ?_|refine keep_alloc ?_ _|refine keep_trans ?_ (by assumption))));obtain ⟨xu20,xu21,xu22,xu2l⟩:=c3_of (keepq hku2 R0.out);obtain ⟨yu20,yu21,yu22,yu2l⟩:=c3_of (keepq hku2 R1.out);obtain ⟨zu20,zu21,zu22,zu2l⟩:=c3_of (keepq hku2 R2.out);obtain ⟨gu20,gu21,gu22,gu2l⟩:=c3_of (keepq hku2 R3.out))|(go_at_call 73;(with_reducible refine (HHP.out _ (by (repeat (first|assumption|exact Below.refl _ _|refine keep_drew ?_|refine keep_alloc ?_ _|refine keep_trans ?_ (by assumption))))).mono ?_);rintro _ u3 ⟨rfl,hbu3⟩;have hku3:Below v4.heap.size v4 u3:=(by (repeat (first|assumption|exact Below.refl _ _|refine keep_drew ?_|refine keep_alloc ?_ _|refine keep_trans ?_ (by assumption))));obtain ⟨xu30,xu31,xu32,xu3l⟩:=c3_of (keepq hku3 R0.out);obtain ⟨yu30,yu31,yu32,yu3l⟩:=c3_of (keepq hku3 R1.out);obtain ⟨zu30,zu31,zu32,zu3l⟩:=c3_of (keepq hku3 R2.out);obtain ⟨gu30,gu31,gu32,gu3l⟩:=c3_of (keepq hku3 R3.out))|(go_at_call 20;refine (awake4_c _).mono ?_;rintro _ wz ⟨rfl,hbz⟩)|fail)
   refine bodyPost_ret (v := .bool true) ?_ rfl ⟨rfl,keep_trans HB4.out (show Below v4.heap.size v4 wz by (repeat (first|assumption|exact Below.refl _ _|refine keep_drew ?_|refine keep_alloc ?_ _|refine keep_trans ?_ (by assumption))))⟩
   simp[results,Tryz.f13,go_sem]
  ·omega
theorem lprod_stt (N M K:Nat) (a:Option Addr) (n c:Nat) (a2:Option Addr) (n2 c2:Nat) (a3:Option Addr) (n3 c3:Nat) (w:World) (h0:¬16<n) (h1:¬16<n2) (h2:¬16<n3) (p pp:Nat) (hp:(N:Int)*(M:Int)=(p:Int)) (hp16:p≤16) (X:List Int) (lA lB lP:List ByteArray) (kB:Bool) (eA:lA.any isGr=true) (eB:lB.any isGr=kB) (eP:lP.any isGr=(true&&kB)) (Y:List Int) (o2:Bool) (hKN:((K:Int) != (N:Int))=false)
  (HA0:∀W,Below w.heap.size w W→Calls Tryz.prog 22 #[.agg #[.int .i64 (N:Int),.int .i64 (N:Int),.slice a n c]] W fun e w'=>e = .returned (.int .i64 0)∧Below W.heap.size W w')
  (HA1:∀W,Below w.heap.size w W→Calls Tryz.prog 22 #[.agg #[.int .i64 (M:Int),.int .i64 (M:Int),.slice a2 n2 c2]] W fun e w'=>e = .returned (.int .i64 0)∧Below W.heap.size W w')
  (HA2:∀W,Below w.heap.size w W→Calls Tryz.prog 22 #[.agg #[.int .i64 (K:Int),.int .i64 (K:Int),.slice a3 n3 c3]] W fun e w'=>e = .returned (.int .i64 0)∧Below W.heap.size W w')
  (HP:∀W,Below w.heap.size w W→Calls Tryz.prog 71 #[.agg #[.int .i64 (N:Int),.int .i64 (N:Int),.slice a n c],.agg #[.int .i64 (M:Int),.int .i64 (M:Int),.slice a2 n2 c2]] W fun e w'=>∃a4 c4,e = .returned (.tuple #[.agg #[.int .i64 (p:Int),.int .i64 (p:Int),.slice a4 pp c4],.int .i64 0])∧IC w' a4 pp X∧pp≤c4∧Below W.heap.size W w')
  (HPC:∀W a4 c4,IC W a4 pp X→Calls Tryz.prog 22 #[.agg #[.int .i64 (p:Int),.int .i64 (p:Int),.slice a4 pp c4]] W fun e w'=>e = .returned (.int .i64 0)∧Below W.heap.size W w')
  (HKA:∀W,Below w.heap.size w W→Calls Tryz.prog 72 #[.agg #[.int .i64 (N:Int),.int .i64 (N:Int),.slice a n c]] W fun e w'=>∃a5 k5 c5,e = .returned (.tuple #[.slice a5 k5 c5,.int .i64 0])∧SC w' a5 k5 lA∧Below W.heap.size W w')
  (HKB:∀W,Below w.heap.size w W→Calls Tryz.prog 72 #[.agg #[.int .i64 (M:Int),.int .i64 (M:Int),.slice a2 n2 c2]] W fun e w'=>∃a5 k5 c5,e = .returned (.tuple #[.slice a5 k5 c5,.int .i64 0])∧SC w' a5 k5 lB∧Below W.heap.size W w')
  (HKP:∀W a4 c4,IC W a4 pp X→pp≤c4→Calls Tryz.prog 72 #[.agg #[.int .i64 (p:Int),.int .i64 (p:Int),.slice a4 pp c4]] W fun e w'=>∃a5 k5 c5,e = .returned (.tuple #[.slice a5 k5 c5,.int .i64 0])∧SC w' a5 k5 lP∧Below W.heap.size W w')
  (HP2:∀W,Below w.heap.size w W→Calls Tryz.prog 71 #[.agg #[.int .i64 (K:Int),.int .i64 (K:Int),.slice a3 n3 c3],.agg #[.int .i64 (M:Int),.int .i64 (M:Int),.slice a2 n2 c2]] W fun e w'=>∃a4 c4,e = .returned (.tuple #[.agg #[.int .i64 (p:Int),.int .i64 (p:Int),.slice a4 pp c4],.int .i64 0])∧IC w' a4 pp Y∧pp≤c4∧Below W.heap.size W w')
  (HO1:∀W,Below w.heap.size w W→Calls Tryz.prog 45 #[.agg #[.int .i64 (N:Int),.int .i64 (N:Int),.slice a n c],.agg #[.int .i64 (K:Int),.int .i64 (K:Int),.slice a3 n3 c3]] W fun e w'=>e = .returned (.tuple #[.bool true,.int .i64 0])∧Below W.heap.size W w')
  (HO2:∀W,Below w.heap.size w W→Calls Tryz.prog 45 #[.agg #[.int .i64 (M:Int),.int .i64 (M:Int),.slice a2 n2 c2],.agg #[.int .i64 (M:Int),.int .i64 (M:Int),.slice a2 n2 c2]] W fun e w'=>e = .returned (.tuple #[.bool o2,.int .i64 0])∧Below W.heap.size W w')
  (HO3:∀W a4 c4 a9 c9,IC W a4 pp X→IC W a9 pp Y→Calls Tryz.prog 45 #[.agg #[.int .i64 (p:Int),.int .i64 (p:Int),.slice a4 pp c4],.agg #[.int .i64 (p:Int),.int .i64 (p:Int),.slice a9 pp c9]] W fun e w'=>e = .returned (.tuple #[.bool (true&&o2),.int .i64 0])∧Below W.heap.size W w')
  : Calls Tryz.prog 13 #[.agg #[.int .i64 (N:Int),.int .i64 (N:Int),.slice a n c],.agg #[.int .i64 (M:Int),.int .i64 (M:Int),.slice a2 n2 c2],.agg #[.int .i64 (K:Int),.int .i64 (K:Int),.slice a3 n3 c3]] w fun e w'=>e = .returned (.bool true)∧Below w.heap.size w w':=by
 have hg0:decide ((16:Int)<(n:Int))=false:=decide_eq_false (by omega)
 have hg1:decide ((16:Int)<(n2:Int))=false:=decide_eq_false (by omega)
 have hg2:decide ((16:Int)<(n3:Int))=false:=decide_eq_false (by omega)
 have HA0:=Lib.hid HA0
 have HA1:=Lib.hid HA1
 have HA2:=Lib.hid HA2
 have HP:=Lib.hid HP
 have HPC:=Lib.hid HPC
 have HKA:=Lib.hid HKA
 have HKB:=Lib.hid HKB
 have HKP:=Lib.hid HKP
 have HP2:=Lib.hid HP2
 have HO1:=Lib.hid HO1
 have HO2:=Lib.hid HO2
 have HO3:=Lib.hid HO3
 have EA:=Lib.hid eA
 have EB:=Lib.hid eB
 have EP:=Lib.hid eP
 have hpn:((p:Int) != (p:Int))=false:=by simp
 have hkk:(kB != kB)=false:=by cases kB <;> rfl
 clear eA eB eP
 have hoo:(o2==o2)=true:=by cases o2 <;> rfl
 go_enter Tryz.func13,Tryz.ntmps13
 go_upto_region 1 with fail
 have fsz:(((w.alloc (.cells #[.int .i64 (N:Int),.int .i64 (N:Int),.slice a n c] 24)).alloc (.cells #[.int .i64 (M:Int),.int .i64 (M:Int),.slice a2 n2 c2] 24)).alloc (.cells #[.int .i64 (K:Int),.int .i64 (K:Int),.slice a3 n3 c3] 24)).heap.size=w.heap.size+3:=by simp only[World.size_alloc] <;> omega
 have fB:Below w.heap.size w (((w.alloc (.cells #[.int .i64 (N:Int),.int .i64 (N:Int),.slice a n c] 24)).alloc (.cells #[.int .i64 (M:Int),.int .i64 (M:Int),.slice a2 n2 c2] 24)).alloc (.cells #[.int .i64 (K:Int),.int .i64 (K:Int),.slice a3 n3 c3] 24)):=(((Below.refl _ _).alloc (Nat.le_refl _) _).alloc (by simp only[World.size_alloc];omega) _).alloc (by simp only[World.size_alloc];omega) _
 have fq0:(((w.alloc (.cells #[.int .i64 (N:Int),.int .i64 (N:Int),.slice a n c] 24)).alloc (.cells #[.int .i64 (M:Int),.int .i64 (M:Int),.slice a2 n2 c2] 24)).alloc (.cells #[.int .i64 (K:Int),.int .i64 (K:Int),.slice a3 n3 c3] 24)).heap[w.heap.size]?=some (.cells #[.int .i64 (N:Int),.int .i64 (N:Int),.slice a n c] 24 (0,0)):=by have h:=World.alloc_heap_new w (.cells #[.int .i64 (N:Int),.int .i64 (N:Int),.slice a n c] 24);exact (Below.heap_alloc _ _ _ (by simp only[World.size_alloc];omega)).trans ((Below.heap_alloc _ _ _ (by simp only[World.size_alloc];omega)).trans (h))
 have fq1:(((w.alloc (.cells #[.int .i64 (N:Int),.int .i64 (N:Int),.slice a n c] 24)).alloc (.cells #[.int .i64 (M:Int),.int .i64 (M:Int),.slice a2 n2 c2] 24)).alloc (.cells #[.int .i64 (K:Int),.int .i64 (K:Int),.slice a3 n3 c3] 24)).heap[w.heap.size+1]?=some (.cells #[.int .i64 (M:Int),.int .i64 (M:Int),.slice a2 n2 c2] 24 (0,0)):=by have h:=World.alloc_heap_new (w.alloc (.cells #[.int .i64 (N:Int),.int .i64 (N:Int),.slice a n c] 24)) (.cells #[.int .i64 (M:Int),.int .i64 (M:Int),.slice a2 n2 c2] 24);simp only[World.size_alloc] at h;exact (Below.heap_alloc _ _ _ (by simp only[World.size_alloc];omega)).trans (h)
 have fq2:(((w.alloc (.cells #[.int .i64 (N:Int),.int .i64 (N:Int),.slice a n c] 24)).alloc (.cells #[.int .i64 (M:Int),.int .i64 (M:Int),.slice a2 n2 c2] 24)).alloc (.cells #[.int .i64 (K:Int),.int .i64 (K:Int),.slice a3 n3 c3] 24)).heap[w.heap.size+1+1]?=some (.cells #[.int .i64 (K:Int),.int .i64 (K:Int),.slice a3 n3 c3] 24 (0,0)):=by have h:=World.alloc_heap_new ((w.alloc (.cells #[.int .i64 (N:Int),.int .i64 (N:Int),.slice a n c] 24)).alloc (.cells #[.int .i64 (M:Int),.int .i64 (M:Int),.slice a2 n2 c2] 24)) (.cells #[.int .i64 (K:Int),.int .i64 (K:Int),.slice a3 n3 c3] 24);simp only[World.size_alloc] at h;exact h
 generalize (((w.alloc (.cells #[.int .i64 (N:Int),.int .i64 (N:Int),.slice a n c] 24)).alloc (.cells #[.int .i64 (M:Int),.int .i64 (M:Int),.slice a2 n2 c2] 24)).alloc (.cells #[.int .i64 (K:Int),.int .i64 (K:Int),.slice a3 n3 c3] 24))=W0 at fsz fB fq0 fq1 fq2 ⊢
 have Q0:=Lib.hid fq0
 have Q1:=Lib.hid fq1
 have Q2:=Lib.hid fq2
 have FB:=Lib.hid fB
 obtain ⟨x0,x1,x2,xl⟩:=c3_of fq0
 obtain ⟨y0,y1,y2,yl⟩:=c3_of fq1
 obtain ⟨z0,z1,z2,zl⟩:=c3_of fq2
 clear fq0 fq1 fq2 fsz fB
 go_upto_region 2 with fail
 have hq9:=World.alloc_heap_new W0 (.cells #[.int .i64 (N:Int),.int .i64 (N:Int),.slice a n c,.int .i64 (M:Int),.int .i64 (M:Int),.slice a2 n2 c2,.int .i64 (K:Int),.int .i64 (K:Int),.slice a3 n3 c3] 24)
 have hb9:Below W0.heap.size W0 (W0.alloc (.cells #[.int .i64 (N:Int),.int .i64 (N:Int),.slice a n c,.int .i64 (M:Int),.int .i64 (M:Int),.slice a2 n2 c2,.int .i64 (K:Int),.int .i64 (K:Int),.slice a3 n3 c3] 24)):=keep_alloc (Below.refl _ _) _
 generalize (W0.alloc (.cells #[.int .i64 (N:Int),.int .i64 (N:Int),.slice a n c,.int .i64 (M:Int),.int .i64 (M:Int),.slice a2 n2 c2,.int .i64 (K:Int),.int .i64 (K:Int),.slice a3 n3 c3] 24))=W1 at hq9 hb9 ⊢
 have HQ9:=Lib.hid hq9
 have HB1:=Lib.hid hb9
 clear x0 x1 x2 xl y0 y1 y2 yl z0 z1 z2 zl hq9 hb9
 go_loopw [8,30] (fun _ s30 wr=>∃k:Nat,k≤3∧s30 = .int .i64 (k:Int)∧Hid (Below W1.heap.size W1 wr)) (fun _ s30 _=>3 - (intOf s30).toNat)
 case atStart=>exact ⟨0,by omega,rfl,Below.refl _ _⟩
 case round =>
  obtain ⟨k,hk,rfl,hbr⟩:=hrel
  have hq:=keepq hbr.out HQ9.out
  have hqz:=q_lt hq
  by_cases e0:k=0
  ·subst e0
   have g0:=q_cell hq 0
   have g1:=q_cell hq 1
   have g2:=q_cell hq 2
   go_upto_region 4 with fail
   have vsz:(wr.alloc (.cells #[.int .i64 (N:Int),.int .i64 (N:Int),.slice a n c] 24)).heap.size=wr.heap.size+1:=by simp only[World.size_alloc]
   have vB:Below wr.heap.size wr (wr.alloc (.cells #[.int .i64 (N:Int),.int .i64 (N:Int),.slice a n c] 24)):=(Below.refl _ _).alloc (Nat.le_refl _) _
   have vq0:(wr.alloc (.cells #[.int .i64 (N:Int),.int .i64 (N:Int),.slice a n c] 24)).heap[wr.heap.size]?=some (.cells #[.int .i64 (N:Int),.int .i64 (N:Int),.slice a n c] 24 (0,0)):=by have h:=World.alloc_heap_new wr (.cells #[.int .i64 (N:Int),.int .i64 (N:Int),.slice a n c] 24);exact h
   generalize (wr.alloc (.cells #[.int .i64 (N:Int),.int .i64 (N:Int),.slice a n c] 24))=V at vsz vB vq0 ⊢
   have QV:=Lib.hid vq0
   have VB:=Lib.hid vB
   obtain ⟨x0,x1,x2,xl⟩:=c3_of vq0
   clear vq0 vB vsz g0 g1 g2
   go_wp2_with (first|(go_at_call 19;(with_reducible refine (lgreat_c (N:Int) (N:Int) a n c 16 _).mono ?_);rintro _ w1 ⟨rfl,hbw1⟩;have hkw1:Below V.heap.size V w1:=(by (repeat (first|assumption|exact Below.refl _ _|refine keep_drew ?_|refine keep_alloc ?_ _|refine keep_trans ?_ (by assumption))));obtain ⟨xw10,xw11,xw12,xw1l⟩:=c3_of (keepq hkw1 QV.out))|(go_at_call 22;(with_reducible refine (HA0.out _ (keep_trans (keep_trans (keep_trans (keep_trans FB.out HB1.out) hbr.out) VB.out) (by (repeat (first|assumption|exact Below.refl _ _|refine keep_drew ?_|refine keep_alloc ?_ _|refine keep_trans ?_ (by assumption)))))).mono ?_);rintro _ w2 ⟨rfl,hbw2⟩;have hkw2:Below V.heap.size V w2:=(by (repeat (first|assumption|exact Below.refl _ _|refine keep_drew ?_|refine keep_alloc ?_ _|refine keep_trans ?_ (by assumption))));obtain ⟨xw20,xw21,xw22,xw2l⟩:=c3_of (keepq hkw2 QV.out))|fail)
   go_roundw
   case rel=>exact ⟨1,by omega,by go_num,keep_trans hbr.out (keep_trans VB.out (show Below V.heap.size V w2 by (repeat (first|assumption|exact Below.refl _ _|refine keep_drew ?_|refine keep_alloc ?_ _|refine keep_trans ?_ (by assumption)))))⟩
   case measure=>simp[intOf]
  by_cases e1:k=1
  ·subst e1
   have g0:=q_cell hq 3
   have g1:=q_cell hq 4
   have g2:=q_cell hq 5
   go_upto_region 4 with fail
   have vsz:(wr.alloc (.cells #[.int .i64 (M:Int),.int .i64 (M:Int),.slice a2 n2 c2] 24)).heap.size=wr.heap.size+1:=by simp only[World.size_alloc]
   have vB:Below wr.heap.size wr (wr.alloc (.cells #[.int .i64 (M:Int),.int .i64 (M:Int),.slice a2 n2 c2] 24)):=(Below.refl _ _).alloc (Nat.le_refl _) _
   have vq0:(wr.alloc (.cells #[.int .i64 (M:Int),.int .i64 (M:Int),.slice a2 n2 c2] 24)).heap[wr.heap.size]?=some (.cells #[.int .i64 (M:Int),.int .i64 (M:Int),.slice a2 n2 c2] 24 (0,0)):=by have h:=World.alloc_heap_new wr (.cells #[.int .i64 (M:Int),.int .i64 (M:Int),.slice a2 n2 c2] 24);exact h
   generalize (wr.alloc (.cells #[.int .i64 (M:Int),.int .i64 (M:Int),.slice a2 n2 c2] 24))=V at vsz vB vq0 ⊢
   have QV:=Lib.hid vq0
   have VB:=Lib.hid vB
   obtain ⟨x0,x1,x2,xl⟩:=c3_of vq0
   clear vq0 vB vsz g0 g1 g2
   go_wp2_with (first|(go_at_call 19;(with_reducible refine (lgreat_c (M:Int) (M:Int) a2 n2 c2 16 _).mono ?_);rintro _ w1 ⟨rfl,hbw1⟩;have hkw1:Below V.heap.size V w1:=(by (repeat (first|assumption|exact Below.refl _ _|refine keep_drew ?_|refine keep_alloc ?_ _|refine keep_trans ?_ (by assumption))));obtain ⟨xw10,xw11,xw12,xw1l⟩:=c3_of (keepq hkw1 QV.out))|(go_at_call 22;(with_reducible refine (HA1.out _ (keep_trans (keep_trans (keep_trans (keep_trans FB.out HB1.out) hbr.out) VB.out) (by (repeat (first|assumption|exact Below.refl _ _|refine keep_drew ?_|refine keep_alloc ?_ _|refine keep_trans ?_ (by assumption)))))).mono ?_);rintro _ w2 ⟨rfl,hbw2⟩;have hkw2:Below V.heap.size V w2:=(by (repeat (first|assumption|exact Below.refl _ _|refine keep_drew ?_|refine keep_alloc ?_ _|refine keep_trans ?_ (by assumption))));obtain ⟨xw20,xw21,xw22,xw2l⟩:=c3_of (keepq hkw2 QV.out))|fail)
   go_roundw
   case rel=>exact ⟨2,by omega,by go_num,keep_trans hbr.out (keep_trans VB.out (show Below V.heap.size V w2 by (repeat (first|assumption|exact Below.refl _ _|refine keep_drew ?_|refine keep_alloc ?_ _|refine keep_trans ?_ (by assumption)))))⟩
   case measure=>simp[intOf]
  by_cases e2:k=2
  ·subst e2
   have g0:=q_cell hq 6
   have g1:=q_cell hq 7
   have g2:=q_cell hq 8
   go_upto_region 4 with fail
   have vsz:(wr.alloc (.cells #[.int .i64 (K:Int),.int .i64 (K:Int),.slice a3 n3 c3] 24)).heap.size=wr.heap.size+1:=by simp only[World.size_alloc]
   have vB:Below wr.heap.size wr (wr.alloc (.cells #[.int .i64 (K:Int),.int .i64 (K:Int),.slice a3 n3 c3] 24)):=(Below.refl _ _).alloc (Nat.le_refl _) _
   have vq0:(wr.alloc (.cells #[.int .i64 (K:Int),.int .i64 (K:Int),.slice a3 n3 c3] 24)).heap[wr.heap.size]?=some (.cells #[.int .i64 (K:Int),.int .i64 (K:Int),.slice a3 n3 c3] 24 (0,0)):=by have h:=World.alloc_heap_new wr (.cells #[.int .i64 (K:Int),.int .i64 (K:Int),.slice a3 n3 c3] 24);exact h
   generalize (wr.alloc (.cells #[.int .i64 (K:Int),.int .i64 (K:Int),.slice a3 n3 c3] 24))=V at vsz vB vq0 ⊢
   have QV:=Lib.hid vq0
   have VB:=Lib.hid vB
   obtain ⟨x0,x1,x2,xl⟩:=c3_of vq0
   clear vq0 vB vsz g0 g1 g2
   go_wp2_with (first|(go_at_call 19;(with_reducible refine (lgreat_c (K:Int) (K:Int) a3 n3 c3 16 _).mono ?_);rintro _ w1 ⟨rfl,hbw1⟩;have hkw1:Below V.heap.size V w1:=(by (repeat (first|assumption|exact Below.refl _ _|refine keep_drew ?_|refine keep_alloc ?_ _|refine keep_trans ?_ (by assumption))));obtain ⟨xw10,xw11,xw12,xw1l⟩:=c3_of (keepq hkw1 QV.out))|(go_at_call 22;(with_reducible refine (HA2.out _ (keep_trans (keep_trans (keep_trans (keep_trans FB.out HB1.out) hbr.out) VB.out) (by (repeat (first|assumption|exact Below.refl _ _|refine keep_drew ?_|refine keep_alloc ?_ _|refine keep_trans ?_ (by assumption)))))).mono ?_);rintro _ w2 ⟨rfl,hbw2⟩;have hkw2:Below V.heap.size V w2:=(by (repeat (first|assumption|exact Below.refl _ _|refine keep_drew ?_|refine keep_alloc ?_ _|refine keep_trans ?_ (by assumption))));obtain ⟨xw20,xw21,xw22,xw2l⟩:=c3_of (keepq hkw2 QV.out))|fail)
   go_roundw
   case rel=>exact ⟨3,by omega,by go_num,keep_trans hbr.out (keep_trans VB.out (show Below V.heap.size V w2 by (repeat (first|assumption|exact Below.refl _ _|refine keep_drew ?_|refine keep_alloc ?_ _|refine keep_trans ?_ (by assumption)))))⟩
   case measure=>simp[intOf]
  by_cases e3:k=3
  ·subst e3
   have HBR:=Lib.hid (keep_trans (keep_trans FB.out HB1.out) hbr.out)
   have hb0r:=keep_trans HB1.out hbr.out
   have P0:=Lib.hid (keepq hb0r Q0.out)
   have P1:=Lib.hid (keepq hb0r Q1.out)
   have P2:=Lib.hid (keepq hb0r Q2.out)
   clear hq hqz hb0r hbr
   obtain ⟨x0,x1,x2,xl⟩:=c3_of P0.out
   obtain ⟨y0,y1,y2,yl⟩:=c3_of P1.out
   obtain ⟨z0,z1,z2,zl⟩:=c3_of P2.out
   go_upto_region 8 with (first|(go_at_call 71;(with_reducible refine (HP.out _ HBR.out).mono ?_);rintro _ w2 ⟨a4,c4,rfl,hi4,hc4,hb2⟩)|fail)
   have gsz:(w2.alloc (.cells #[.int .i64 (p:Int),.int .i64 (p:Int),.slice a4 pp c4] 24)).heap.size=w2.heap.size+1:=by simp only[World.size_alloc]
   have gB:Below w2.heap.size w2 (w2.alloc (.cells #[.int .i64 (p:Int),.int .i64 (p:Int),.slice a4 pp c4] 24)):=(Below.refl _ _).alloc (Nat.le_refl _) _
   have gq0:(w2.alloc (.cells #[.int .i64 (p:Int),.int .i64 (p:Int),.slice a4 pp c4] 24)).heap[w2.heap.size]?=some (.cells #[.int .i64 (p:Int),.int .i64 (p:Int),.slice a4 pp c4] 24 (0,0)):=by have h:=World.alloc_heap_new w2 (.cells #[.int .i64 (p:Int),.int .i64 (p:Int),.slice a4 pp c4] 24);exact h
   generalize (w2.alloc (.cells #[.int .i64 (p:Int),.int .i64 (p:Int),.slice a4 pp c4] 24))=V3 at gsz gB gq0 ⊢
   have hb23:=keep_trans hb2 gB
   have Q3:=Lib.hid gq0
   have Q0:=Lib.hid (keepq hb23 P0.out)
   have Q1:=Lib.hid (keepq hb23 P1.out)
   have Q2:=Lib.hid (keepq hb23 P2.out)
   have HB3:=Lib.hid (keep_trans HBR.out hb23)
   have HI3:=Lib.hid (hi4.mono gB)
   clear gsz gq0 gB hb2 hi4 hb23 x0 x1 x2 xl y0 y1 y2 yl z0 z1 z2 zl
   obtain ⟨x0,x1,x2,xl⟩:=c3_of Q0.out
   obtain ⟨y0,y1,y2,yl⟩:=c3_of Q1.out
   obtain ⟨z0,z1,z2,zl⟩:=c3_of Q2.out
   obtain ⟨g0,g1,g2,gl⟩:=c3_of Q3.out
   go_upto_region 13 with (first|(go_at_call 22;(with_reducible refine (HPC.out _ _ _ HI3.out).mono ?_);rintro _ v1 ⟨rfl,hbv1⟩;have hkv1:Below V3.heap.size V3 v1:=(by (repeat (first|assumption|exact Below.refl _ _|refine keep_drew ?_|refine keep_alloc ?_ _|refine keep_trans ?_ (by assumption))));obtain ⟨xv10,xv11,xv12,xv1l⟩:=c3_of (keepq hkv1 Q0.out);obtain ⟨yv10,yv11,yv12,yv1l⟩:=c3_of (keepq hkv1 Q1.out);obtain ⟨zv10,zv11,zv12,zv1l⟩:=c3_of (keepq hkv1 Q2.out);obtain ⟨gv10,gv11,gv12,gv1l⟩:=c3_of (keepq hkv1 Q3.out))|(go_at_call 72;(with_reducible refine (HKA.out _ (keep_trans HB3.out (by (repeat (first|assumption|exact Below.refl _ _|refine keep_drew ?_|refine keep_alloc ?_ _|refine keep_trans ?_ (by assumption)))))).mono ?_);rintro _ v2 ⟨aA,nA,cA,rfl,sA,hbv2⟩;have hkv2:Below V3.heap.size V3 v2:=(by (repeat (first|assumption|exact Below.refl _ _|refine keep_drew ?_|refine keep_alloc ?_ _|refine keep_trans ?_ (by assumption))));obtain ⟨xv20,xv21,xv22,xv2l⟩:=c3_of (keepq hkv2 Q0.out);obtain ⟨yv20,yv21,yv22,yv2l⟩:=c3_of (keepq hkv2 Q1.out);obtain ⟨zv20,zv21,zv22,zv2l⟩:=c3_of (keepq hkv2 Q2.out);obtain ⟨gv20,gv21,gv22,gv2l⟩:=c3_of (keepq hkv2 Q3.out))|(go_at_call 72;(with_reducible refine (HKB.out _ (keep_trans HB3.out (by (repeat (first|assumption|exact Below.refl _ _|refine keep_drew ?_|refine keep_alloc ?_ _|refine keep_trans ?_ (by assumption)))))).mono ?_);rintro _ v3 ⟨aB,nB,cB,rfl,sB,hbv3⟩;have hkv3:Below V3.heap.size V3 v3:=(by (repeat (first|assumption|exact Below.refl _ _|refine keep_drew ?_|refine keep_alloc ?_ _|refine keep_trans ?_ (by assumption))));obtain ⟨xv30,xv31,xv32,xv3l⟩:=c3_of (keepq hkv3 Q0.out);obtain ⟨yv30,yv31,yv32,yv3l⟩:=c3_of (keepq hkv3 Q1.out);obtain ⟨zv30,zv31,zv32,zv3l⟩:=c3_of (keepq hkv3 Q2.out);obtain ⟨gv30,gv31,gv32,gv3l⟩:=c3_of (keepq hkv3 Q3.out))|(go_at_call 72;(with_reducible refine (HKP.out _ _ _ (HI3.out.mono (by (repeat (first|assumption|exact Below.refl _ _|refine keep_drew ?_|refine keep_alloc ?_ _|refine keep_trans ?_ (by assumption))))) hc4).mono ?_);rintro _ v4 ⟨aP,nP,cP,rfl,sP,hbv4⟩;have hkv4:Below V3.heap.size V3 v4:=(by (repeat (first|assumption|exact Below.refl _ _|refine keep_drew ?_|refine keep_alloc ?_ _|refine keep_trans ?_ (by assumption))));obtain ⟨xv40,xv41,xv42,xv4l⟩:=c3_of (keepq hkv4 Q0.out);obtain ⟨yv40,yv41,yv42,yv4l⟩:=c3_of (keepq hkv4 Q1.out);obtain ⟨zv40,zv41,zv42,zv4l⟩:=c3_of (keepq hkv4 Q2.out);obtain ⟨gv40,gv41,gv42,gv4l⟩:=c3_of (keepq hkv4 Q3.out))|fail)
   have hB4:Below V3.heap.size V3 v4:=by (repeat (first|assumption|exact Below.refl _ _|refine keep_drew ?_|refine keep_alloc ?_ _|refine keep_trans ?_ (by assumption)))
   have sA4:SC v4 aA nA lA:=sA.mono (keep_trans hbv3 hbv4)
   have sB4:SC v4 aB nB lB:=sB.mono hbv4
   have HHA:=Lib.hid (fun W (hb:Below v4.heap.size v4 W)=>lhas_c aA nA cA lA W (sA4.mono hb))
   have HHB:=Lib.hid (fun W (hb:Below v4.heap.size v4 W)=>lhas_c aB nB cB lB W (sB4.mono hb))
   have HHP:=Lib.hid (fun W (hb:Below v4.heap.size v4 W)=>lhas_c aP nP cP lP W (sP.mono hb))
   rw[EA.out] at HHA
   rw[EB.out] at HHB
   rw[EP.out] at HHP
   have R0:=Lib.hid (keepq hB4 Q0.out)
   have R1:=Lib.hid (keepq hB4 Q1.out)
   have R2:=Lib.hid (keepq hB4 Q2.out)
   have R3:=Lib.hid (keepq hB4 Q3.out)
   have HB4:=Lib.hid (keep_trans HB3.out hB4)
   have HI4:=Lib.hid (HI3.out.mono hB4)
   clear x0 x1 x2 xl y0 y1 y2 yl z0 z1 z2 zl g0 g1 g2 gl
   clear xv10 xv11 xv12 xv1l yv10 yv11 yv12 yv1l zv10 zv11 zv12 zv1l gv10 gv11 gv12 gv1l xv20 xv21 xv22 xv2l yv20 yv21 yv22 yv2l zv20 zv21 zv22 zv2l gv20 gv21 gv22 gv2l xv30 xv31 xv32 xv3l yv30 yv31 yv32 yv3l zv30 zv31 zv32 zv3l gv30 gv31 gv32 gv3l xv40 xv41 xv42 xv4l yv40 yv41 yv42 yv4l zv40 zv41 zv42 zv4l gv40 gv41 gv42 gv4l hkv1 hbv1 hkv2 hbv2 hkv3 hbv3 hkv4 hbv4 hB4 sA sB sP sA4 sB4
   obtain ⟨x0,x1,x2,xl⟩:=c3_of R0.out
   obtain ⟨y0,y1,y2,yl⟩:=c3_of R1.out
   obtain ⟨z0,z1,z2,zl⟩:=c3_of R2.out
   obtain ⟨g0,g1,g2,gl⟩:=c3_of R3.out
   go_upto_region 18 with (first|(go_at_call 73;(with_reducible refine (HHA.out _ (by (repeat (first|assumption|exact Below.refl _ _|refine keep_drew ?_|refine keep_alloc ?_ _|refine keep_trans ?_ (by assumption))))).mono ?_);rintro _ u1 ⟨rfl,hbu1⟩;have hku1:Below v4.heap.size v4 u1:=(by (repeat (first|assumption|exact Below.refl _ _|refine keep_drew ?_|refine keep_alloc ?_ _|refine keep_trans ?_ (by assumption))));obtain ⟨xu10,xu11,xu12,xu1l⟩:=c3_of (keepq hku1 R0.out);obtain ⟨yu10,yu11,yu12,yu1l⟩:=c3_of (keepq hku1 R1.out);obtain ⟨zu10,zu11,zu12,zu1l⟩:=c3_of (keepq hku1 R2.out);obtain ⟨gu10,gu11,gu12,gu1l⟩:=c3_of (keepq hku1 R3.out))|(go_at_call 73;(with_reducible refine (HHB.out _ (by (repeat (first|assumption|exact Below.refl _ _|refine keep_drew ?_|refine keep_alloc ?_ _|refine keep_trans ?_ (by assumption))))).mono ?_);rintro _ u2 ⟨rfl,hbu2⟩;have hku2:Below v4.heap.size v4 u2:=(by (repeat (first|assumption|exact Below.refl _ _|refine keep_drew ?_|refine keep_alloc ?_ _|refine keep_trans ?_ (by assumption))));obtain ⟨xu20,xu21,xu22,xu2l⟩:=c3_of (keepq hku2 R0.out);obtain ⟨yu20,yu21,yu22,yu2l⟩:=c3_of (keepq hku2 R1.out);obtain ⟨zu20,zu21,zu22,zu2l⟩:=c3_of (keepq hku2 R2.out);obtain ⟨gu20,gu21,gu22,gu2l⟩:=c3_of (keepq hku2 R3.out))|(go_at_call 73;(with_reducible refine (HHP.out _ (by (repeat (first|assumption|exact Below.refl _ _|refine keep_drew ?_|refine keep_alloc ?_ _|refine keep_trans ?_ (by assumption))))).mono ?_);rintro _ u3 ⟨rfl,hbu3⟩;have hku3:Below v4.heap.size v4 u3:=(by (repeat (first|assumption|exact Below.refl _ _|refine keep_drew ?_|refine keep_alloc ?_ _|refine keep_trans ?_ (by assumption))));obtain ⟨xu30,xu31,xu32,xu3l⟩:=c3_of (keepq hku3 R0.out);obtain ⟨yu30,yu31,yu32,yu3l⟩:=c3_of (keepq hku3 R1.out);obtain ⟨zu30,zu31,zu32,zu3l⟩:=c3_of (keepq hku3 R2.out);obtain ⟨gu30,gu31,gu32,gu3l⟩:=c3_of (keepq hku3 R3.out))|(go_at_call 71;(with_reducible refine (HP2.out _ (keep_trans HB4.out (by (repeat (first|assumption|exact Below.refl _ _|refine keep_drew ?_|refine keep_alloc ?_ _|refine keep_trans ?_ (by assumption)))))).mono ?_);rintro _ u4 ⟨a9,c9,rfl,hi9,hc9,hbu4⟩)|fail)
   have hBu:Below v4.heap.size v4 u4:=by (repeat (first|assumption|exact Below.refl _ _|refine keep_drew ?_|refine keep_alloc ?_ _|refine keep_trans ?_ (by assumption)))
   have ksz:(u4.alloc (.cells #[.int .i64 (p:Int),.int .i64 (p:Int),.slice a9 pp c9] 24)).heap.size=u4.heap.size+1:=by simp only[World.size_alloc]
   have kB:Below u4.heap.size u4 (u4.alloc (.cells #[.int .i64 (p:Int),.int .i64 (p:Int),.slice a9 pp c9] 24)):=(Below.refl _ _).alloc (Nat.le_refl _) _
   have kq0:(u4.alloc (.cells #[.int .i64 (p:Int),.int .i64 (p:Int),.slice a9 pp c9] 24)).heap[u4.heap.size]?=some (.cells #[.int .i64 (p:Int),.int .i64 (p:Int),.slice a9 pp c9] 24 (0,0)):=by have h:=World.alloc_heap_new u4 (.cells #[.int .i64 (p:Int),.int .i64 (p:Int),.slice a9 pp c9] 24);exact h
   generalize (u4.alloc (.cells #[.int .i64 (p:Int),.int .i64 (p:Int),.slice a9 pp c9] 24))=V5 at ksz kB kq0 ⊢
   have hb45:=keep_trans hBu kB
   have S0:=Lib.hid (keepq hb45 R0.out)
   have S1:=Lib.hid (keepq hb45 R1.out)
   have S2:=Lib.hid (keepq hb45 R2.out)
   have S3:=Lib.hid (keepq hb45 R3.out)
   have S4:=Lib.hid kq0
   have HB5:=Lib.hid (keep_trans HB4.out hb45)
   have HI5:=Lib.hid (HI4.out.mono hb45)
   have HJ5:=Lib.hid (hi9.mono kB)
   clear x0 x1 x2 xl y0 y1 y2 yl z0 z1 z2 zl g0 g1 g2 gl ksz kq0 kB hi9 hb45 hBu hbu4
   clear xu10 xu11 xu12 xu1l yu10 yu11 yu12 yu1l zu10 zu11 zu12 zu1l gu10 gu11 gu12 gu1l xu30 xu31 xu32 xu3l yu30 yu31 yu32 yu3l zu30 zu31 zu32 zu3l gu30 gu31 gu32 gu3l xu20 xu21 xu22 xu2l yu20 yu21 yu22 yu2l zu20 zu21 zu22 zu2l gu20 gu21 gu22 gu2l hku1 hbu1 hku3 hbu3 hku2 hbu2
   obtain ⟨x0,x1,x2,xl⟩:=c3_of S0.out
   obtain ⟨y0,y1,y2,yl⟩:=c3_of S1.out
   obtain ⟨z0,z1,z2,zl⟩:=c3_of S2.out
   obtain ⟨g0,g1,g2,gl⟩:=c3_of S3.out
   obtain ⟨t0,t1,t2,tl⟩:=c3_of S4.out
   go_wp2_with (first|(go_at_call 45;(with_reducible refine (HO1.out _ (keep_trans HB5.out (by (repeat (first|assumption|exact Below.refl _ _|refine keep_drew ?_|refine keep_alloc ?_ _|refine keep_trans ?_ (by assumption)))))).mono ?_);rintro _ s1 ⟨rfl,hbs1⟩;have hks1:Below V5.heap.size V5 s1:=(by (repeat (first|assumption|exact Below.refl _ _|refine keep_drew ?_|refine keep_alloc ?_ _|refine keep_trans ?_ (by assumption))));obtain ⟨xs10,xs11,xs12,xs1l⟩:=c3_of (keepq hks1 S0.out);obtain ⟨ys10,ys11,ys12,ys1l⟩:=c3_of (keepq hks1 S1.out);obtain ⟨zs10,zs11,zs12,zs1l⟩:=c3_of (keepq hks1 S2.out);obtain ⟨gs10,gs11,gs12,gs1l⟩:=c3_of (keepq hks1 S3.out);obtain ⟨ts10,ts11,ts12,ts1l⟩:=c3_of (keepq hks1 S4.out))|(go_at_call 45;(with_reducible refine (HO2.out _ (keep_trans HB5.out (by (repeat (first|assumption|exact Below.refl _ _|refine keep_drew ?_|refine keep_alloc ?_ _|refine keep_trans ?_ (by assumption)))))).mono ?_);rintro _ s2 ⟨rfl,hbs2⟩;have hks2:Below V5.heap.size V5 s2:=(by (repeat (first|assumption|exact Below.refl _ _|refine keep_drew ?_|refine keep_alloc ?_ _|refine keep_trans ?_ (by assumption))));obtain ⟨xs20,xs21,xs22,xs2l⟩:=c3_of (keepq hks2 S0.out);obtain ⟨ys20,ys21,ys22,ys2l⟩:=c3_of (keepq hks2 S1.out);obtain ⟨zs20,zs21,zs22,zs2l⟩:=c3_of (keepq hks2 S2.out);obtain ⟨gs20,gs21,gs22,gs2l⟩:=c3_of (keepq hks2 S3.out);obtain ⟨ts20,ts21,ts22,ts2l⟩:=c3_of (keepq hks2 S4.out))|(go_at_call 45;(with_reducible refine (HO3.out _ _ _ _ _ (HI5.out.mono (by (repeat (first|assumption|exact Below.refl _ _|refine keep_drew ?_|refine keep_alloc ?_ _|refine keep_trans ?_ (by assumption))))) (HJ5.out.mono (by (repeat (first|assumption|exact Below.refl _ _|refine keep_drew ?_|refine keep_alloc ?_ _|refine keep_trans ?_ (by assumption)))))).mono ?_);rintro _ s3 ⟨rfl,hbs3⟩)|(go_at_call 20;refine (awake4_c _).mono ?_;rintro _ wz ⟨rfl,hbz⟩)|fail)
   refine bodyPost_ret (v := .bool true) ?_ rfl ⟨rfl,keep_trans HB5.out (show Below V5.heap.size V5 wz by (repeat (first|assumption|exact Below.refl _ _|refine keep_drew ?_|refine keep_alloc ?_ _|refine keep_trans ?_ (by assumption))))⟩
   simp[results,Tryz.f13,go_sem]
  ·omega
theorem lprod_stf (N M K:Nat) (a:Option Addr) (n c:Nat) (a2:Option Addr) (n2 c2:Nat) (a3:Option Addr) (n3 c3:Nat) (w:World) (h0:¬16<n) (h1:¬16<n2) (h2:¬16<n3) (p pp:Nat) (hp:(N:Int)*(M:Int)=(p:Int)) (hp16:p≤16) (X:List Int) (lA lB lP:List ByteArray) (kB:Bool) (eA:lA.any isGr=true) (eB:lB.any isGr=kB) (eP:lP.any isGr=(true&&kB)) (Y:List Int) (o2:Bool) (hKN:((K:Int) != (N:Int))=false)
  (HA0:∀W,Below w.heap.size w W→Calls Tryz.prog 22 #[.agg #[.int .i64 (N:Int),.int .i64 (N:Int),.slice a n c]] W fun e w'=>e = .returned (.int .i64 0)∧Below W.heap.size W w')
  (HA1:∀W,Below w.heap.size w W→Calls Tryz.prog 22 #[.agg #[.int .i64 (M:Int),.int .i64 (M:Int),.slice a2 n2 c2]] W fun e w'=>e = .returned (.int .i64 0)∧Below W.heap.size W w')
  (HA2:∀W,Below w.heap.size w W→Calls Tryz.prog 22 #[.agg #[.int .i64 (K:Int),.int .i64 (K:Int),.slice a3 n3 c3]] W fun e w'=>e = .returned (.int .i64 0)∧Below W.heap.size W w')
  (HP:∀W,Below w.heap.size w W→Calls Tryz.prog 71 #[.agg #[.int .i64 (N:Int),.int .i64 (N:Int),.slice a n c],.agg #[.int .i64 (M:Int),.int .i64 (M:Int),.slice a2 n2 c2]] W fun e w'=>∃a4 c4,e = .returned (.tuple #[.agg #[.int .i64 (p:Int),.int .i64 (p:Int),.slice a4 pp c4],.int .i64 0])∧IC w' a4 pp X∧pp≤c4∧Below W.heap.size W w')
  (HPC:∀W a4 c4,IC W a4 pp X→Calls Tryz.prog 22 #[.agg #[.int .i64 (p:Int),.int .i64 (p:Int),.slice a4 pp c4]] W fun e w'=>e = .returned (.int .i64 0)∧Below W.heap.size W w')
  (HKA:∀W,Below w.heap.size w W→Calls Tryz.prog 72 #[.agg #[.int .i64 (N:Int),.int .i64 (N:Int),.slice a n c]] W fun e w'=>∃a5 k5 c5,e = .returned (.tuple #[.slice a5 k5 c5,.int .i64 0])∧SC w' a5 k5 lA∧Below W.heap.size W w')
  (HKB:∀W,Below w.heap.size w W→Calls Tryz.prog 72 #[.agg #[.int .i64 (M:Int),.int .i64 (M:Int),.slice a2 n2 c2]] W fun e w'=>∃a5 k5 c5,e = .returned (.tuple #[.slice a5 k5 c5,.int .i64 0])∧SC w' a5 k5 lB∧Below W.heap.size W w')
  (HKP:∀W a4 c4,IC W a4 pp X→pp≤c4→Calls Tryz.prog 72 #[.agg #[.int .i64 (p:Int),.int .i64 (p:Int),.slice a4 pp c4]] W fun e w'=>∃a5 k5 c5,e = .returned (.tuple #[.slice a5 k5 c5,.int .i64 0])∧SC w' a5 k5 lP∧Below W.heap.size W w')
  (HP2:∀W,Below w.heap.size w W→Calls Tryz.prog 71 #[.agg #[.int .i64 (K:Int),.int .i64 (K:Int),.slice a3 n3 c3],.agg #[.int .i64 (M:Int),.int .i64 (M:Int),.slice a2 n2 c2]] W fun e w'=>∃a4 c4,e = .returned (.tuple #[.agg #[.int .i64 (p:Int),.int .i64 (p:Int),.slice a4 pp c4],.int .i64 0])∧IC w' a4 pp Y∧pp≤c4∧Below W.heap.size W w')
  (HO1:∀W,Below w.heap.size w W→Calls Tryz.prog 45 #[.agg #[.int .i64 (N:Int),.int .i64 (N:Int),.slice a n c],.agg #[.int .i64 (K:Int),.int .i64 (K:Int),.slice a3 n3 c3]] W fun e w'=>e = .returned (.tuple #[.bool false,.int .i64 0])∧Below W.heap.size W w')
  (HO2:∀W,Below w.heap.size w W→Calls Tryz.prog 45 #[.agg #[.int .i64 (M:Int),.int .i64 (M:Int),.slice a2 n2 c2],.agg #[.int .i64 (M:Int),.int .i64 (M:Int),.slice a2 n2 c2]] W fun e w'=>e = .returned (.tuple #[.bool o2,.int .i64 0])∧Below W.heap.size W w')
  (HO3:∀W a4 c4 a9 c9,IC W a4 pp X→IC W a9 pp Y→Calls Tryz.prog 45 #[.agg #[.int .i64 (p:Int),.int .i64 (p:Int),.slice a4 pp c4],.agg #[.int .i64 (p:Int),.int .i64 (p:Int),.slice a9 pp c9]] W fun e w'=>e = .returned (.tuple #[.bool (false&&o2),.int .i64 0])∧Below W.heap.size W w')
  : Calls Tryz.prog 13 #[.agg #[.int .i64 (N:Int),.int .i64 (N:Int),.slice a n c],.agg #[.int .i64 (M:Int),.int .i64 (M:Int),.slice a2 n2 c2],.agg #[.int .i64 (K:Int),.int .i64 (K:Int),.slice a3 n3 c3]] w fun e w'=>e = .returned (.bool true)∧Below w.heap.size w w':=by
 have hg0:decide ((16:Int)<(n:Int))=false:=decide_eq_false (by omega)
 have hg1:decide ((16:Int)<(n2:Int))=false:=decide_eq_false (by omega)
 have hg2:decide ((16:Int)<(n3:Int))=false:=decide_eq_false (by omega)
 have HA0:=Lib.hid HA0
 have HA1:=Lib.hid HA1
 have HA2:=Lib.hid HA2
 have HP:=Lib.hid HP
 have HPC:=Lib.hid HPC
 have HKA:=Lib.hid HKA
 have HKB:=Lib.hid HKB
 have HKP:=Lib.hid HKP
 have HP2:=Lib.hid HP2
 have HO1:=Lib.hid HO1
 have HO2:=Lib.hid HO2
 have HO3:=Lib.hid HO3
 have EA:=Lib.hid eA
 have EB:=Lib.hid eB
 have EP:=Lib.hid eP
 have hpn:((p:Int) != (p:Int))=false:=by simp
 have hkk:(kB != kB)=false:=by cases kB <;> rfl
 clear eA eB eP
 have hoo:(o2==o2)=true:=by cases o2 <;> rfl
 go_enter Tryz.func13,Tryz.ntmps13
 go_upto_region 1 with fail
 have fsz:(((w.alloc (.cells #[.int .i64 (N:Int),.int .i64 (N:Int),.slice a n c] 24)).alloc (.cells #[.int .i64 (M:Int),.int .i64 (M:Int),.slice a2 n2 c2] 24)).alloc (.cells #[.int .i64 (K:Int),.int .i64 (K:Int),.slice a3 n3 c3] 24)).heap.size=w.heap.size+3:=by simp only[World.size_alloc] <;> omega
 have fB:Below w.heap.size w (((w.alloc (.cells #[.int .i64 (N:Int),.int .i64 (N:Int),.slice a n c] 24)).alloc (.cells #[.int .i64 (M:Int),.int .i64 (M:Int),.slice a2 n2 c2] 24)).alloc (.cells #[.int .i64 (K:Int),.int .i64 (K:Int),.slice a3 n3 c3] 24)):=(((Below.refl _ _).alloc (Nat.le_refl _) _).alloc (by simp only[World.size_alloc];omega) _).alloc (by simp only[World.size_alloc];omega) _
 have fq0:(((w.alloc (.cells #[.int .i64 (N:Int),.int .i64 (N:Int),.slice a n c] 24)).alloc (.cells #[.int .i64 (M:Int),.int .i64 (M:Int),.slice a2 n2 c2] 24)).alloc (.cells #[.int .i64 (K:Int),.int .i64 (K:Int),.slice a3 n3 c3] 24)).heap[w.heap.size]?=some (.cells #[.int .i64 (N:Int),.int .i64 (N:Int),.slice a n c] 24 (0,0)):=by have h:=World.alloc_heap_new w (.cells #[.int .i64 (N:Int),.int .i64 (N:Int),.slice a n c] 24);exact (Below.heap_alloc _ _ _ (by simp only[World.size_alloc];omega)).trans ((Below.heap_alloc _ _ _ (by simp only[World.size_alloc];omega)).trans (h))
 have fq1:(((w.alloc (.cells #[.int .i64 (N:Int),.int .i64 (N:Int),.slice a n c] 24)).alloc (.cells #[.int .i64 (M:Int),.int .i64 (M:Int),.slice a2 n2 c2] 24)).alloc (.cells #[.int .i64 (K:Int),.int .i64 (K:Int),.slice a3 n3 c3] 24)).heap[w.heap.size+1]?=some (.cells #[.int .i64 (M:Int),.int .i64 (M:Int),.slice a2 n2 c2] 24 (0,0)):=by have h:=World.alloc_heap_new (w.alloc (.cells #[.int .i64 (N:Int),.int .i64 (N:Int),.slice a n c] 24)) (.cells #[.int .i64 (M:Int),.int .i64 (M:Int),.slice a2 n2 c2] 24);simp only[World.size_alloc] at h;exact (Below.heap_alloc _ _ _ (by simp only[World.size_alloc];omega)).trans (h)
 have fq2:(((w.alloc (.cells #[.int .i64 (N:Int),.int .i64 (N:Int),.slice a n c] 24)).alloc (.cells #[.int .i64 (M:Int),.int .i64 (M:Int),.slice a2 n2 c2] 24)).alloc (.cells #[.int .i64 (K:Int),.int .i64 (K:Int),.slice a3 n3 c3] 24)).heap[w.heap.size+1+1]?=some (.cells #[.int .i64 (K:Int),.int .i64 (K:Int),.slice a3 n3 c3] 24 (0,0)):=by have h:=World.alloc_heap_new ((w.alloc (.cells #[.int .i64 (N:Int),.int .i64 (N:Int),.slice a n c] 24)).alloc (.cells #[.int .i64 (M:Int),.int .i64 (M:Int),.slice a2 n2 c2] 24)) (.cells #[.int .i64 (K:Int),.int .i64 (K:Int),.slice a3 n3 c3] 24);simp only[World.size_alloc] at h;exact h
 generalize (((w.alloc (.cells #[.int .i64 (N:Int),.int .i64 (N:Int),.slice a n c] 24)).alloc (.cells #[.int .i64 (M:Int),.int .i64 (M:Int),.slice a2 n2 c2] 24)).alloc (.cells #[.int .i64 (K:Int),.int .i64 (K:Int),.slice a3 n3 c3] 24))=W0 at fsz fB fq0 fq1 fq2 ⊢
 have Q0:=Lib.hid fq0
 have Q1:=Lib.hid fq1
 have Q2:=Lib.hid fq2
 have FB:=Lib.hid fB
 obtain ⟨x0,x1,x2,xl⟩:=c3_of fq0
 obtain ⟨y0,y1,y2,yl⟩:=c3_of fq1
 obtain ⟨z0,z1,z2,zl⟩:=c3_of fq2
 clear fq0 fq1 fq2 fsz fB
 go_upto_region 2 with fail
 have hq9:=World.alloc_heap_new W0 (.cells #[.int .i64 (N:Int),.int .i64 (N:Int),.slice a n c,.int .i64 (M:Int),.int .i64 (M:Int),.slice a2 n2 c2,.int .i64 (K:Int),.int .i64 (K:Int),.slice a3 n3 c3] 24)
 have hb9:Below W0.heap.size W0 (W0.alloc (.cells #[.int .i64 (N:Int),.int .i64 (N:Int),.slice a n c,.int .i64 (M:Int),.int .i64 (M:Int),.slice a2 n2 c2,.int .i64 (K:Int),.int .i64 (K:Int),.slice a3 n3 c3] 24)):=keep_alloc (Below.refl _ _) _
 generalize (W0.alloc (.cells #[.int .i64 (N:Int),.int .i64 (N:Int),.slice a n c,.int .i64 (M:Int),.int .i64 (M:Int),.slice a2 n2 c2,.int .i64 (K:Int),.int .i64 (K:Int),.slice a3 n3 c3] 24))=W1 at hq9 hb9 ⊢
 have HQ9:=Lib.hid hq9
 have HB1:=Lib.hid hb9
 clear x0 x1 x2 xl y0 y1 y2 yl z0 z1 z2 zl hq9 hb9
 go_loopw [8,30] (fun _ s30 wr=>∃k:Nat,k≤3∧s30 = .int .i64 (k:Int)∧Hid (Below W1.heap.size W1 wr)) (fun _ s30 _=>3 - (intOf s30).toNat)
 case atStart=>exact ⟨0,by omega,rfl,Below.refl _ _⟩
 case round =>
  obtain ⟨k,hk,rfl,hbr⟩:=hrel
  have hq:=keepq hbr.out HQ9.out
  have hqz:=q_lt hq
  by_cases e0:k=0
  ·subst e0
   have g0:=q_cell hq 0
   have g1:=q_cell hq 1
   have g2:=q_cell hq 2
   go_upto_region 4 with fail
   have vsz:(wr.alloc (.cells #[.int .i64 (N:Int),.int .i64 (N:Int),.slice a n c] 24)).heap.size=wr.heap.size+1:=by simp only[World.size_alloc]
   have vB:Below wr.heap.size wr (wr.alloc (.cells #[.int .i64 (N:Int),.int .i64 (N:Int),.slice a n c] 24)):=(Below.refl _ _).alloc (Nat.le_refl _) _
   have vq0:(wr.alloc (.cells #[.int .i64 (N:Int),.int .i64 (N:Int),.slice a n c] 24)).heap[wr.heap.size]?=some (.cells #[.int .i64 (N:Int),.int .i64 (N:Int),.slice a n c] 24 (0,0)):=by have h:=World.alloc_heap_new wr (.cells #[.int .i64 (N:Int),.int .i64 (N:Int),.slice a n c] 24);exact h
   generalize (wr.alloc (.cells #[.int .i64 (N:Int),.int .i64 (N:Int),.slice a n c] 24))=V at vsz vB vq0 ⊢
   have QV:=Lib.hid vq0
   have VB:=Lib.hid vB
   obtain ⟨x0,x1,x2,xl⟩:=c3_of vq0
   clear vq0 vB vsz g0 g1 g2
   go_wp2_with (first|(go_at_call 19;(with_reducible refine (lgreat_c (N:Int) (N:Int) a n c 16 _).mono ?_);rintro _ w1 ⟨rfl,hbw1⟩;have hkw1:Below V.heap.size V w1:=(by (repeat (first|assumption|exact Below.refl _ _|refine keep_drew ?_|refine keep_alloc ?_ _|refine keep_trans ?_ (by assumption))));obtain ⟨xw10,xw11,xw12,xw1l⟩:=c3_of (keepq hkw1 QV.out))|(go_at_call 22;(with_reducible refine (HA0.out _ (keep_trans (keep_trans (keep_trans (keep_trans FB.out HB1.out) hbr.out) VB.out) (by (repeat (first|assumption|exact Below.refl _ _|refine keep_drew ?_|refine keep_alloc ?_ _|refine keep_trans ?_ (by assumption)))))).mono ?_);rintro _ w2 ⟨rfl,hbw2⟩;have hkw2:Below V.heap.size V w2:=(by (repeat (first|assumption|exact Below.refl _ _|refine keep_drew ?_|refine keep_alloc ?_ _|refine keep_trans ?_ (by assumption))));obtain ⟨xw20,xw21,xw22,xw2l⟩:=c3_of (keepq hkw2 QV.out))|fail)
   go_roundw
   case rel=>exact ⟨1,by omega,by go_num,keep_trans hbr.out (keep_trans VB.out (show Below V.heap.size V w2 by (repeat (first|assumption|exact Below.refl _ _|refine keep_drew ?_|refine keep_alloc ?_ _|refine keep_trans ?_ (by assumption)))))⟩
   case measure=>simp[intOf]
  by_cases e1:k=1
  ·subst e1
   have g0:=q_cell hq 3
   have g1:=q_cell hq 4
   have g2:=q_cell hq 5
   go_upto_region 4 with fail
   have vsz:(wr.alloc (.cells #[.int .i64 (M:Int),.int .i64 (M:Int),.slice a2 n2 c2] 24)).heap.size=wr.heap.size+1:=by simp only[World.size_alloc]
   have vB:Below wr.heap.size wr (wr.alloc (.cells #[.int .i64 (M:Int),.int .i64 (M:Int),.slice a2 n2 c2] 24)):=(Below.refl _ _).alloc (Nat.le_refl _) _
   have vq0:(wr.alloc (.cells #[.int .i64 (M:Int),.int .i64 (M:Int),.slice a2 n2 c2] 24)).heap[wr.heap.size]?=some (.cells #[.int .i64 (M:Int),.int .i64 (M:Int),.slice a2 n2 c2] 24 (0,0)):=by have h:=World.alloc_heap_new wr (.cells #[.int .i64 (M:Int),.int .i64 (M:Int),.slice a2 n2 c2] 24);exact h
   generalize (wr.alloc (.cells #[.int .i64 (M:Int),.int .i64 (M:Int),.slice a2 n2 c2] 24))=V at vsz vB vq0 ⊢
   have QV:=Lib.hid vq0
   have VB:=Lib.hid vB
   obtain ⟨x0,x1,x2,xl⟩:=c3_of vq0
   clear vq0 vB vsz g0 g1 g2
   go_wp2_with (first|(go_at_call 19;(with_reducible refine (lgreat_c (M:Int) (M:Int) a2 n2 c2 16 _).mono ?_);rintro _ w1 ⟨rfl,hbw1⟩;have hkw1:Below V.heap.size V w1:=(by (repeat (first|assumption|exact Below.refl _ _|refine keep_drew ?_|refine keep_alloc ?_ _|refine keep_trans ?_ (by assumption))));obtain ⟨xw10,xw11,xw12,xw1l⟩:=c3_of (keepq hkw1 QV.out))|(go_at_call 22;(with_reducible refine (HA1.out _ (keep_trans (keep_trans (keep_trans (keep_trans FB.out HB1.out) hbr.out) VB.out) (by (repeat (first|assumption|exact Below.refl _ _|refine keep_drew ?_|refine keep_alloc ?_ _|refine keep_trans ?_ (by assumption)))))).mono ?_);rintro _ w2 ⟨rfl,hbw2⟩;have hkw2:Below V.heap.size V w2:=(by (repeat (first|assumption|exact Below.refl _ _|refine keep_drew ?_|refine keep_alloc ?_ _|refine keep_trans ?_ (by assumption))));obtain ⟨xw20,xw21,xw22,xw2l⟩:=c3_of (keepq hkw2 QV.out))|fail)
   go_roundw
   case rel=>exact ⟨2,by omega,by go_num,keep_trans hbr.out (keep_trans VB.out (show Below V.heap.size V w2 by (repeat (first|assumption|exact Below.refl _ _|refine keep_drew ?_|refine keep_alloc ?_ _|refine keep_trans ?_ (by assumption)))))⟩
   case measure=>simp[intOf]
  by_cases e2:k=2
  ·subst e2
   have g0:=q_cell hq 6
   have g1:=q_cell hq 7
   have g2:=q_cell hq 8
   go_upto_region 4 with fail
   have vsz:(wr.alloc (.cells #[.int .i64 (K:Int),.int .i64 (K:Int),.slice a3 n3 c3] 24)).heap.size=wr.heap.size+1:=by simp only[World.size_alloc]
   have vB:Below wr.heap.size wr (wr.alloc (.cells #[.int .i64 (K:Int),.int .i64 (K:Int),.slice a3 n3 c3] 24)):=(Below.refl _ _).alloc (Nat.le_refl _) _
   have vq0:(wr.alloc (.cells #[.int .i64 (K:Int),.int .i64 (K:Int),.slice a3 n3 c3] 24)).heap[wr.heap.size]?=some (.cells #[.int .i64 (K:Int),.int .i64 (K:Int),.slice a3 n3 c3] 24 (0,0)):=by have h:=World.alloc_heap_new wr (.cells #[.int .i64 (K:Int),.int .i64 (K:Int),.slice a3 n3 c3] 24);exact h
   generalize (wr.alloc (.cells #[.int .i64 (K:Int),.int .i64 (K:Int),.slice a3 n3 c3] 24))=V at vsz vB vq0 ⊢
   have QV:=Lib.hid vq0
   have VB:=Lib.hid vB
   obtain ⟨x0,x1,x2,xl⟩:=c3_of vq0
   clear vq0 vB vsz g0 g1 g2
   go_wp2_with (first|(go_at_call 19;(with_reducible refine (lgreat_c (K:Int) (K:Int) a3 n3 c3 16 _).mono ?_);rintro _ w1 ⟨rfl,hbw1⟩;have hkw1:Below V.heap.size V w1:=(by (repeat (first|assumption|exact Below.refl _ _|refine keep_drew ?_|refine keep_alloc ?_ _|refine keep_trans ?_ (by assumption))));obtain ⟨xw10,xw11,xw12,xw1l⟩:=c3_of (keepq hkw1 QV.out))|(go_at_call 22;(with_reducible refine (HA2.out _ (keep_trans (keep_trans (keep_trans (keep_trans FB.out HB1.out) hbr.out) VB.out) (by (repeat (first|assumption|exact Below.refl _ _|refine keep_drew ?_|refine keep_alloc ?_ _|refine keep_trans ?_ (by assumption)))))).mono ?_);rintro _ w2 ⟨rfl,hbw2⟩;have hkw2:Below V.heap.size V w2:=(by (repeat (first|assumption|exact Below.refl _ _|refine keep_drew ?_|refine keep_alloc ?_ _|refine keep_trans ?_ (by assumption))));obtain ⟨xw20,xw21,xw22,xw2l⟩:=c3_of (keepq hkw2 QV.out))|fail)
   go_roundw
   case rel=>exact ⟨3,by omega,by go_num,keep_trans hbr.out (keep_trans VB.out (show Below V.heap.size V w2 by (repeat (first|assumption|exact Below.refl _ _|refine keep_drew ?_|refine keep_alloc ?_ _|refine keep_trans ?_ (by assumption)))))⟩
   case measure=>simp[intOf]
  by_cases e3:k=3
  ·subst e3
   have HBR:=Lib.hid (keep_trans (keep_trans FB.out HB1.out) hbr.out)
   have hb0r:=keep_trans HB1.out hbr.out
   have P0:=Lib.hid (keepq hb0r Q0.out)
   have P1:=Lib.hid (keepq hb0r Q1.out)
   have P2:=Lib.hid (keepq hb0r Q2.out)
   clear hq hqz hb0r hbr
   obtain ⟨x0,x1,x2,xl⟩:=c3_of P0.out
   obtain ⟨y0,y1,y2,yl⟩:=c3_of P1.out
   obtain ⟨z0,z1,z2,zl⟩:=c3_of P2.out
   go_upto_region 8 with (first|(go_at_call 71;(with_reducible refine (HP.out _ HBR.out).mono ?_);rintro _ w2 ⟨a4,c4,rfl,hi4,hc4,hb2⟩)|fail)
   have gsz:(w2.alloc (.cells #[.int .i64 (p:Int),.int .i64 (p:Int),.slice a4 pp c4] 24)).heap.size=w2.heap.size+1:=by simp only[World.size_alloc]
   have gB:Below w2.heap.size w2 (w2.alloc (.cells #[.int .i64 (p:Int),.int .i64 (p:Int),.slice a4 pp c4] 24)):=(Below.refl _ _).alloc (Nat.le_refl _) _
   have gq0:(w2.alloc (.cells #[.int .i64 (p:Int),.int .i64 (p:Int),.slice a4 pp c4] 24)).heap[w2.heap.size]?=some (.cells #[.int .i64 (p:Int),.int .i64 (p:Int),.slice a4 pp c4] 24 (0,0)):=by have h:=World.alloc_heap_new w2 (.cells #[.int .i64 (p:Int),.int .i64 (p:Int),.slice a4 pp c4] 24);exact h
   generalize (w2.alloc (.cells #[.int .i64 (p:Int),.int .i64 (p:Int),.slice a4 pp c4] 24))=V3 at gsz gB gq0 ⊢
   have hb23:=keep_trans hb2 gB
   have Q3:=Lib.hid gq0
   have Q0:=Lib.hid (keepq hb23 P0.out)
   have Q1:=Lib.hid (keepq hb23 P1.out)
   have Q2:=Lib.hid (keepq hb23 P2.out)
   have HB3:=Lib.hid (keep_trans HBR.out hb23)
   have HI3:=Lib.hid (hi4.mono gB)
   clear gsz gq0 gB hb2 hi4 hb23 x0 x1 x2 xl y0 y1 y2 yl z0 z1 z2 zl
   obtain ⟨x0,x1,x2,xl⟩:=c3_of Q0.out
   obtain ⟨y0,y1,y2,yl⟩:=c3_of Q1.out
   obtain ⟨z0,z1,z2,zl⟩:=c3_of Q2.out
   obtain ⟨g0,g1,g2,gl⟩:=c3_of Q3.out
   go_upto_region 13 with (first|(go_at_call 22;(with_reducible refine (HPC.out _ _ _ HI3.out).mono ?_);rintro _ v1 ⟨rfl,hbv1⟩;have hkv1:Below V3.heap.size V3 v1:=(by (repeat (first|assumption|exact Below.refl _ _|refine keep_drew ?_|refine keep_alloc ?_ _|refine keep_trans ?_ (by assumption))));obtain ⟨xv10,xv11,xv12,xv1l⟩:=c3_of (keepq hkv1 Q0.out);obtain ⟨yv10,yv11,yv12,yv1l⟩:=c3_of (keepq hkv1 Q1.out);obtain ⟨zv10,zv11,zv12,zv1l⟩:=c3_of (keepq hkv1 Q2.out);obtain ⟨gv10,gv11,gv12,gv1l⟩:=c3_of (keepq hkv1 Q3.out))|(go_at_call 72;(with_reducible refine (HKA.out _ (keep_trans HB3.out (by (repeat (first|assumption|exact Below.refl _ _|refine keep_drew ?_|refine keep_alloc ?_ _|refine keep_trans ?_ (by assumption)))))).mono ?_);rintro _ v2 ⟨aA,nA,cA,rfl,sA,hbv2⟩;have hkv2:Below V3.heap.size V3 v2:=(by (repeat (first|assumption|exact Below.refl _ _|refine keep_drew ?_|refine keep_alloc ?_ _|refine keep_trans ?_ (by assumption))));obtain ⟨xv20,xv21,xv22,xv2l⟩:=c3_of (keepq hkv2 Q0.out);obtain ⟨yv20,yv21,yv22,yv2l⟩:=c3_of (keepq hkv2 Q1.out);obtain ⟨zv20,zv21,zv22,zv2l⟩:=c3_of (keepq hkv2 Q2.out);obtain ⟨gv20,gv21,gv22,gv2l⟩:=c3_of (keepq hkv2 Q3.out))|(go_at_call 72;(with_reducible refine (HKB.out _ (keep_trans HB3.out (by (repeat (first|assumption|exact Below.refl _ _|refine keep_drew ?_|refine keep_alloc ?_ _|refine keep_trans ?_ (by assumption)))))).mono ?_);rintro _ v3 ⟨aB,nB,cB,rfl,sB,hbv3⟩;have hkv3:Below V3.heap.size V3 v3:=(by (repeat (first|assumption|exact Below.refl _ _|refine keep_drew ?_|refine keep_alloc ?_ _|refine keep_trans ?_ (by assumption))));obtain ⟨xv30,xv31,xv32,xv3l⟩:=c3_of (keepq hkv3 Q0.out);obtain ⟨yv30,yv31,yv32,yv3l⟩:=c3_of (keepq hkv3 Q1.out);obtain ⟨zv30,zv31,zv32,zv3l⟩:=c3_of (keepq hkv3 Q2.out);obtain ⟨gv30,gv31,gv32,gv3l⟩:=c3_of (keepq hkv3 Q3.out))|(go_at_call 72;(with_reducible refine (HKP.out _ _ _ (HI3.out.mono (by (repeat (first|assumption|exact Below.refl _ _|refine keep_drew ?_|refine keep_alloc ?_ _|refine keep_trans ?_ (by assumption))))) hc4).mono ?_);rintro _ v4 ⟨aP,nP,cP,rfl,sP,hbv4⟩;have hkv4:Below V3.heap.size V3 v4:=(by (repeat (first|assumption|exact Below.refl _ _|refine keep_drew ?_|refine keep_alloc ?_ _|refine keep_trans ?_ (by assumption))));obtain ⟨xv40,xv41,xv42,xv4l⟩:=c3_of (keepq hkv4 Q0.out);obtain ⟨yv40,yv41,yv42,yv4l⟩:=c3_of (keepq hkv4 Q1.out);obtain ⟨zv40,zv41,zv42,zv4l⟩:=c3_of (keepq hkv4 Q2.out);obtain ⟨gv40,gv41,gv42,gv4l⟩:=c3_of (keepq hkv4 Q3.out))|fail)
   have hB4:Below V3.heap.size V3 v4:=by (repeat (first|assumption|exact Below.refl _ _|refine keep_drew ?_|refine keep_alloc ?_ _|refine keep_trans ?_ (by assumption)))
   have sA4:SC v4 aA nA lA:=sA.mono (keep_trans hbv3 hbv4)
   have sB4:SC v4 aB nB lB:=sB.mono hbv4
   have HHA:=Lib.hid (fun W (hb:Below v4.heap.size v4 W)=>lhas_c aA nA cA lA W (sA4.mono hb))
   have HHB:=Lib.hid (fun W (hb:Below v4.heap.size v4 W)=>lhas_c aB nB cB lB W (sB4.mono hb))
   have HHP:=Lib.hid (fun W (hb:Below v4.heap.size v4 W)=>lhas_c aP nP cP lP W (sP.mono hb))
   rw[EA.out] at HHA
   rw[EB.out] at HHB
   rw[EP.out] at HHP
   have R0:=Lib.hid (keepq hB4 Q0.out)
   have R1:=Lib.hid (keepq hB4 Q1.out)
   have R2:=Lib.hid (keepq hB4 Q2.out)
   have R3:=Lib.hid (keepq hB4 Q3.out)
   have HB4:=Lib.hid (keep_trans HB3.out hB4)
   have HI4:=Lib.hid (HI3.out.mono hB4)
   clear x0 x1 x2 xl y0 y1 y2 yl z0 z1 z2 zl g0 g1 g2 gl
   clear xv10 xv11 xv12 xv1l yv10 yv11 yv12 yv1l zv10 zv11 zv12 zv1l gv10 gv11 gv12 gv1l xv20 xv21 xv22 xv2l yv20 yv21 yv22 yv2l zv20 zv21 zv22 zv2l gv20 gv21 gv22 gv2l xv30 xv31 xv32 xv3l yv30 yv31 yv32 yv3l zv30 zv31 zv32 zv3l gv30 gv31 gv32 gv3l xv40 xv41 xv42 xv4l yv40 yv41 yv42 yv4l zv40 zv41 zv42 zv4l gv40 gv41 gv42 gv4l hkv1 hbv1 hkv2 hbv2 hkv3 hbv3 hkv4 hbv4 hB4 sA sB sP sA4 sB4
   obtain ⟨x0,x1,x2,xl⟩:=c3_of R0.out
   obtain ⟨y0,y1,y2,yl⟩:=c3_of R1.out
   obtain ⟨z0,z1,z2,zl⟩:=c3_of R2.out
   obtain ⟨g0,g1,g2,gl⟩:=c3_of R3.out
   go_upto_region 18 with (first|(go_at_call 73;(with_reducible refine (HHA.out _ (by (repeat (first|assumption|exact Below.refl _ _|refine keep_drew ?_|refine keep_alloc ?_ _|refine keep_trans ?_ (by assumption))))).mono ?_);rintro _ u1 ⟨rfl,hbu1⟩;have hku1:Below v4.heap.size v4 u1:=(by (repeat (first|assumption|exact Below.refl _ _|refine keep_drew ?_|refine keep_alloc ?_ _|refine keep_trans ?_ (by assumption))));obtain ⟨xu10,xu11,xu12,xu1l⟩:=c3_of (keepq hku1 R0.out);obtain ⟨yu10,yu11,yu12,yu1l⟩:=c3_of (keepq hku1 R1.out);obtain ⟨zu10,zu11,zu12,zu1l⟩:=c3_of (keepq hku1 R2.out);obtain ⟨gu10,gu11,gu12,gu1l⟩:=c3_of (keepq hku1 R3.out))|(go_at_call 73;(with_reducible refine (HHB.out _ (by (repeat (first|assumption|exact Below.refl _ _|refine keep_drew ?_|refine keep_alloc ?_ _|refine keep_trans ?_ (by assumption))))).mono ?_);rintro _ u2 ⟨rfl,hbu2⟩;have hku2:Below v4.heap.size v4 u2:=(by (repeat (first|assumption|exact Below.refl _ _|refine keep_drew ?_|refine keep_alloc ?_ _|refine keep_trans ?_ (by assumption))));obtain ⟨xu20,xu21,xu22,xu2l⟩:=c3_of (keepq hku2 R0.out);obtain ⟨yu20,yu21,yu22,yu2l⟩:=c3_of (keepq hku2 R1.out);obtain ⟨zu20,zu21,zu22,zu2l⟩:=c3_of (keepq hku2 R2.out);obtain ⟨gu20,gu21,gu22,gu2l⟩:=c3_of (keepq hku2 R3.out))|(go_at_call 73;(with_reducible refine (HHP.out _ (by (repeat (first|assumption|exact Below.refl _ _|refine keep_drew ?_|refine keep_alloc ?_ _|refine keep_trans ?_ (by assumption))))).mono ?_);rintro _ u3 ⟨rfl,hbu3⟩;have hku3:Below v4.heap.size v4 u3:=(by (repeat (first|assumption|exact Below.refl _ _|refine keep_drew ?_|refine keep_alloc ?_ _|refine keep_trans ?_ (by assumption))));obtain ⟨xu30,xu31,xu32,xu3l⟩:=c3_of (keepq hku3 R0.out);obtain ⟨yu30,yu31,yu32,yu3l⟩:=c3_of (keepq hku3 R1.out);obtain ⟨zu30,zu31,zu32,zu3l⟩:=c3_of (keepq hku3 R2.out);obtain ⟨gu30,gu31,gu32,gu3l⟩:=c3_of (keepq hku3 R3.out))|(go_at_call 71;(with_reducible refine (HP2.out _ (keep_trans HB4.out (by (repeat (first|assumption|exact Below.refl _ _|refine keep_drew ?_|refine keep_alloc ?_ _|refine keep_trans ?_ (by assumption)))))).mono ?_);rintro _ u4 ⟨a9,c9,rfl,hi9,hc9,hbu4⟩)|fail)
   have hBu:Below v4.heap.size v4 u4:=by (repeat (first|assumption|exact Below.refl _ _|refine keep_drew ?_|refine keep_alloc ?_ _|refine keep_trans ?_ (by assumption)))
   have ksz:(u4.alloc (.cells #[.int .i64 (p:Int),.int .i64 (p:Int),.slice a9 pp c9] 24)).heap.size=u4.heap.size+1:=by simp only[World.size_alloc]
   have kB:Below u4.heap.size u4 (u4.alloc (.cells #[.int .i64 (p:Int),.int .i64 (p:Int),.slice a9 pp c9] 24)):=(Below.refl _ _).alloc (Nat.le_refl _) _
   have kq0:(u4.alloc (.cells #[.int .i64 (p:Int),.int .i64 (p:Int),.slice a9 pp c9] 24)).heap[u4.heap.size]?=some (.cells #[.int .i64 (p:Int),.int .i64 (p:Int),.slice a9 pp c9] 24 (0,0)):=by have h:=World.alloc_heap_new u4 (.cells #[.int .i64 (p:Int),.int .i64 (p:Int),.slice a9 pp c9] 24);exact h
   generalize (u4.alloc (.cells #[.int .i64 (p:Int),.int .i64 (p:Int),.slice a9 pp c9] 24))=V5 at ksz kB kq0 ⊢
   have hb45:=keep_trans hBu kB
   have S0:=Lib.hid (keepq hb45 R0.out)
   have S1:=Lib.hid (keepq hb45 R1.out)
   have S2:=Lib.hid (keepq hb45 R2.out)
   have S3:=Lib.hid (keepq hb45 R3.out)
   have S4:=Lib.hid kq0
   have HB5:=Lib.hid (keep_trans HB4.out hb45)
   have HI5:=Lib.hid (HI4.out.mono hb45)
   have HJ5:=Lib.hid (hi9.mono kB)
   clear x0 x1 x2 xl y0 y1 y2 yl z0 z1 z2 zl g0 g1 g2 gl ksz kq0 kB hi9 hb45 hBu hbu4
   clear xu10 xu11 xu12 xu1l yu10 yu11 yu12 yu1l zu10 zu11 zu12 zu1l gu10 gu11 gu12 gu1l xu30 xu31 xu32 xu3l yu30 yu31 yu32 yu3l zu30 zu31 zu32 zu3l gu30 gu31 gu32 gu3l xu20 xu21 xu22 xu2l yu20 yu21 yu22 yu2l zu20 zu21 zu22 zu2l gu20 gu21 gu22 gu2l hku1 hbu1 hku3 hbu3 hku2 hbu2
   obtain ⟨x0,x1,x2,xl⟩:=c3_of S0.out
   obtain ⟨y0,y1,y2,yl⟩:=c3_of S1.out
   obtain ⟨z0,z1,z2,zl⟩:=c3_of S2.out
   obtain ⟨g0,g1,g2,gl⟩:=c3_of S3.out
   obtain ⟨t0,t1,t2,tl⟩:=c3_of S4.out
   go_wp2_with (first|(go_at_call 45;(with_reducible refine (HO1.out _ (keep_trans HB5.out (by (repeat (first|assumption|exact Below.refl _ _|refine keep_drew ?_|refine keep_alloc ?_ _|refine keep_trans ?_ (by assumption)))))).mono ?_);rintro _ s1 ⟨rfl,hbs1⟩;have hks1:Below V5.heap.size V5 s1:=(by (repeat (first|assumption|exact Below.refl _ _|refine keep_drew ?_|refine keep_alloc ?_ _|refine keep_trans ?_ (by assumption))));obtain ⟨xs10,xs11,xs12,xs1l⟩:=c3_of (keepq hks1 S0.out);obtain ⟨ys10,ys11,ys12,ys1l⟩:=c3_of (keepq hks1 S1.out);obtain ⟨zs10,zs11,zs12,zs1l⟩:=c3_of (keepq hks1 S2.out);obtain ⟨gs10,gs11,gs12,gs1l⟩:=c3_of (keepq hks1 S3.out);obtain ⟨ts10,ts11,ts12,ts1l⟩:=c3_of (keepq hks1 S4.out))|(go_at_call 45;(with_reducible refine (HO2.out _ (keep_trans HB5.out (by (repeat (first|assumption|exact Below.refl _ _|refine keep_drew ?_|refine keep_alloc ?_ _|refine keep_trans ?_ (by assumption)))))).mono ?_);rintro _ s2 ⟨rfl,hbs2⟩;have hks2:Below V5.heap.size V5 s2:=(by (repeat (first|assumption|exact Below.refl _ _|refine keep_drew ?_|refine keep_alloc ?_ _|refine keep_trans ?_ (by assumption))));obtain ⟨xs20,xs21,xs22,xs2l⟩:=c3_of (keepq hks2 S0.out);obtain ⟨ys20,ys21,ys22,ys2l⟩:=c3_of (keepq hks2 S1.out);obtain ⟨zs20,zs21,zs22,zs2l⟩:=c3_of (keepq hks2 S2.out);obtain ⟨gs20,gs21,gs22,gs2l⟩:=c3_of (keepq hks2 S3.out);obtain ⟨ts20,ts21,ts22,ts2l⟩:=c3_of (keepq hks2 S4.out))|(go_at_call 45;(with_reducible refine (HO3.out _ _ _ _ _ (HI5.out.mono (by (repeat (first|assumption|exact Below.refl _ _|refine keep_drew ?_|refine keep_alloc ?_ _|refine keep_trans ?_ (by assumption))))) (HJ5.out.mono (by (repeat (first|assumption|exact Below.refl _ _|refine keep_drew ?_|refine keep_alloc ?_ _|refine keep_trans ?_ (by assumption)))))).mono ?_);rintro _ s3 ⟨rfl,hbs3⟩)|(go_at_call 20;refine (awake4_c _).mono ?_;rintro _ wz ⟨rfl,hbz⟩)|fail)
   refine bodyPost_ret (v := .bool true) ?_ rfl ⟨rfl,keep_trans HB5.out (show Below V5.heap.size V5 wz by (repeat (first|assumption|exact Below.refl _ _|refine keep_drew ?_|refine keep_alloc ?_ _|refine keep_trans ?_ (by assumption))))⟩
   simp[results,Tryz.f13,go_sem]
  ·omega
theorem lprod_nf (N M K:Nat) (a:Option Addr) (n c:Nat) (a2:Option Addr) (n2 c2:Nat) (a3:Option Addr) (n3 c3:Nat) (w:World) (h0:¬16<n) (h1:¬16<n2) (h2:¬16<n3) (p pp:Nat) (hp:(N:Int)*(M:Int)=(p:Int)) (hp16:p≤16) (X:List Int) (lA lB lP:List ByteArray) (kB:Bool) (eA:lA.any isGr=false) (eB:lB.any isGr=kB) (eP:lP.any isGr=(false&&kB)) (hKN:((K:Int) != (N:Int))=true)
  (HA0:∀W,Below w.heap.size w W→Calls Tryz.prog 22 #[.agg #[.int .i64 (N:Int),.int .i64 (N:Int),.slice a n c]] W fun e w'=>e = .returned (.int .i64 0)∧Below W.heap.size W w')
  (HA1:∀W,Below w.heap.size w W→Calls Tryz.prog 22 #[.agg #[.int .i64 (M:Int),.int .i64 (M:Int),.slice a2 n2 c2]] W fun e w'=>e = .returned (.int .i64 0)∧Below W.heap.size W w')
  (HA2:∀W,Below w.heap.size w W→Calls Tryz.prog 22 #[.agg #[.int .i64 (K:Int),.int .i64 (K:Int),.slice a3 n3 c3]] W fun e w'=>e = .returned (.int .i64 0)∧Below W.heap.size W w')
  (HP:∀W,Below w.heap.size w W→Calls Tryz.prog 71 #[.agg #[.int .i64 (N:Int),.int .i64 (N:Int),.slice a n c],.agg #[.int .i64 (M:Int),.int .i64 (M:Int),.slice a2 n2 c2]] W fun e w'=>∃a4 c4,e = .returned (.tuple #[.agg #[.int .i64 (p:Int),.int .i64 (p:Int),.slice a4 pp c4],.int .i64 0])∧IC w' a4 pp X∧pp≤c4∧Below W.heap.size W w')
  (HPC:∀W a4 c4,IC W a4 pp X→Calls Tryz.prog 22 #[.agg #[.int .i64 (p:Int),.int .i64 (p:Int),.slice a4 pp c4]] W fun e w'=>e = .returned (.int .i64 0)∧Below W.heap.size W w')
  (HKA:∀W,Below w.heap.size w W→Calls Tryz.prog 72 #[.agg #[.int .i64 (N:Int),.int .i64 (N:Int),.slice a n c]] W fun e w'=>∃a5 k5 c5,e = .returned (.tuple #[.slice a5 k5 c5,.int .i64 0])∧SC w' a5 k5 lA∧Below W.heap.size W w')
  (HKB:∀W,Below w.heap.size w W→Calls Tryz.prog 72 #[.agg #[.int .i64 (M:Int),.int .i64 (M:Int),.slice a2 n2 c2]] W fun e w'=>∃a5 k5 c5,e = .returned (.tuple #[.slice a5 k5 c5,.int .i64 0])∧SC w' a5 k5 lB∧Below W.heap.size W w')
  (HKP:∀W a4 c4,IC W a4 pp X→pp≤c4→Calls Tryz.prog 72 #[.agg #[.int .i64 (p:Int),.int .i64 (p:Int),.slice a4 pp c4]] W fun e w'=>∃a5 k5 c5,e = .returned (.tuple #[.slice a5 k5 c5,.int .i64 0])∧SC w' a5 k5 lP∧Below W.heap.size W w')
  : Calls Tryz.prog 13 #[.agg #[.int .i64 (N:Int),.int .i64 (N:Int),.slice a n c],.agg #[.int .i64 (M:Int),.int .i64 (M:Int),.slice a2 n2 c2],.agg #[.int .i64 (K:Int),.int .i64 (K:Int),.slice a3 n3 c3]] w fun e w'=>e = .returned (.bool true)∧Below w.heap.size w w':=by
 have hg0:decide ((16:Int)<(n:Int))=false:=decide_eq_false (by omega)
 have hg1:decide ((16:Int)<(n2:Int))=false:=decide_eq_false (by omega)
 have hg2:decide ((16:Int)<(n3:Int))=false:=decide_eq_false (by omega)
 have HA0:=Lib.hid HA0
 have HA1:=Lib.hid HA1
 have HA2:=Lib.hid HA2
 have HP:=Lib.hid HP
 have HPC:=Lib.hid HPC
 have HKA:=Lib.hid HKA
 have HKB:=Lib.hid HKB
 have HKP:=Lib.hid HKP
 have EA:=Lib.hid eA
 have EB:=Lib.hid eB
 have EP:=Lib.hid eP
 have hpn:((p:Int) != (p:Int))=false:=by simp
 have hkk:(kB != kB)=false:=by cases kB <;> rfl
 clear eA eB eP
 go_enter Tryz.func13,Tryz.ntmps13
 go_upto_region 1 with fail
 have fsz:(((w.alloc (.cells #[.int .i64 (N:Int),.int .i64 (N:Int),.slice a n c] 24)).alloc (.cells #[.int .i64 (M:Int),.int .i64 (M:Int),.slice a2 n2 c2] 24)).alloc (.cells #[.int .i64 (K:Int),.int .i64 (K:Int),.slice a3 n3 c3] 24)).heap.size=w.heap.size+3:=by simp only[World.size_alloc] <;> omega
 have fB:Below w.heap.size w (((w.alloc (.cells #[.int .i64 (N:Int),.int .i64 (N:Int),.slice a n c] 24)).alloc (.cells #[.int .i64 (M:Int),.int .i64 (M:Int),.slice a2 n2 c2] 24)).alloc (.cells #[.int .i64 (K:Int),.int .i64 (K:Int),.slice a3 n3 c3] 24)):=(((Below.refl _ _).alloc (Nat.le_refl _) _).alloc (by simp only[World.size_alloc];omega) _).alloc (by simp only[World.size_alloc];omega) _
 have fq0:(((w.alloc (.cells #[.int .i64 (N:Int),.int .i64 (N:Int),.slice a n c] 24)).alloc (.cells #[.int .i64 (M:Int),.int .i64 (M:Int),.slice a2 n2 c2] 24)).alloc (.cells #[.int .i64 (K:Int),.int .i64 (K:Int),.slice a3 n3 c3] 24)).heap[w.heap.size]?=some (.cells #[.int .i64 (N:Int),.int .i64 (N:Int),.slice a n c] 24 (0,0)):=by have h:=World.alloc_heap_new w (.cells #[.int .i64 (N:Int),.int .i64 (N:Int),.slice a n c] 24);exact (Below.heap_alloc _ _ _ (by simp only[World.size_alloc];omega)).trans ((Below.heap_alloc _ _ _ (by simp only[World.size_alloc];omega)).trans (h))
 have fq1:(((w.alloc (.cells #[.int .i64 (N:Int),.int .i64 (N:Int),.slice a n c] 24)).alloc (.cells #[.int .i64 (M:Int),.int .i64 (M:Int),.slice a2 n2 c2] 24)).alloc (.cells #[.int .i64 (K:Int),.int .i64 (K:Int),.slice a3 n3 c3] 24)).heap[w.heap.size+1]?=some (.cells #[.int .i64 (M:Int),.int .i64 (M:Int),.slice a2 n2 c2] 24 (0,0)):=by have h:=World.alloc_heap_new (w.alloc (.cells #[.int .i64 (N:Int),.int .i64 (N:Int),.slice a n c] 24)) (.cells #[.int .i64 (M:Int),.int .i64 (M:Int),.slice a2 n2 c2] 24);simp only[World.size_alloc] at h;exact (Below.heap_alloc _ _ _ (by simp only[World.size_alloc];omega)).trans (h)
 have fq2:(((w.alloc (.cells #[.int .i64 (N:Int),.int .i64 (N:Int),.slice a n c] 24)).alloc (.cells #[.int .i64 (M:Int),.int .i64 (M:Int),.slice a2 n2 c2] 24)).alloc (.cells #[.int .i64 (K:Int),.int .i64 (K:Int),.slice a3 n3 c3] 24)).heap[w.heap.size+1+1]?=some (.cells #[.int .i64 (K:Int),.int .i64 (K:Int),.slice a3 n3 c3] 24 (0,0)):=by have h:=World.alloc_heap_new ((w.alloc (.cells #[.int .i64 (N:Int),.int .i64 (N:Int),.slice a n c] 24)).alloc (.cells #[.int .i64 (M:Int),.int .i64 (M:Int),.slice a2 n2 c2] 24)) (.cells #[.int .i64 (K:Int),.int .i64 (K:Int),.slice a3 n3 c3] 24);simp only[World.size_alloc] at h;exact h
 generalize (((w.alloc (.cells #[.int .i64 (N:Int),.int .i64 (N:Int),.slice a n c] 24)).alloc (.cells #[.int .i64 (M:Int),.int .i64 (M:Int),.slice a2 n2 c2] 24)).alloc (.cells #[.int .i64 (K:Int),.int .i64 (K:Int),.slice a3 n3 c3] 24))=W0 at fsz fB fq0 fq1 fq2 ⊢
 have Q0:=Lib.hid fq0
 have Q1:=Lib.hid fq1
 have Q2:=Lib.hid fq2
 have FB:=Lib.hid fB
 obtain ⟨x0,x1,x2,xl⟩:=c3_of fq0
 obtain ⟨y0,y1,y2,yl⟩:=c3_of fq1
 obtain ⟨z0,z1,z2,zl⟩:=c3_of fq2
 clear fq0 fq1 fq2 fsz fB
 go_upto_region 2 with fail
 have hq9:=World.alloc_heap_new W0 (.cells #[.int .i64 (N:Int),.int .i64 (N:Int),.slice a n c,.int .i64 (M:Int),.int .i64 (M:Int),.slice a2 n2 c2,.int .i64 (K:Int),.int .i64 (K:Int),.slice a3 n3 c3] 24)
 have hb9:Below W0.heap.size W0 (W0.alloc (.cells #[.int .i64 (N:Int),.int .i64 (N:Int),.slice a n c,.int .i64 (M:Int),.int .i64 (M:Int),.slice a2 n2 c2,.int .i64 (K:Int),.int .i64 (K:Int),.slice a3 n3 c3] 24)):=keep_alloc (Below.refl _ _) _
 generalize (W0.alloc (.cells #[.int .i64 (N:Int),.int .i64 (N:Int),.slice a n c,.int .i64 (M:Int),.int .i64 (M:Int),.slice a2 n2 c2,.int .i64 (K:Int),.int .i64 (K:Int),.slice a3 n3 c3] 24))=W1 at hq9 hb9 ⊢
 have HQ9:=Lib.hid hq9
 have HB1:=Lib.hid hb9
 clear x0 x1 x2 xl y0 y1 y2 yl z0 z1 z2 zl hq9 hb9
 go_loopw [8,30] (fun _ s30 wr=>∃k:Nat,k≤3∧s30 = .int .i64 (k:Int)∧Hid (Below W1.heap.size W1 wr)) (fun _ s30 _=>3 - (intOf s30).toNat)
 case atStart=>exact ⟨0,by omega,rfl,Below.refl _ _⟩
 case round =>
  obtain ⟨k,hk,rfl,hbr⟩:=hrel
  have hq:=keepq hbr.out HQ9.out
  have hqz:=q_lt hq
  by_cases e0:k=0
  ·subst e0
   have g0:=q_cell hq 0
   have g1:=q_cell hq 1
   have g2:=q_cell hq 2
   go_upto_region 4 with fail
   have vsz:(wr.alloc (.cells #[.int .i64 (N:Int),.int .i64 (N:Int),.slice a n c] 24)).heap.size=wr.heap.size+1:=by simp only[World.size_alloc]
   have vB:Below wr.heap.size wr (wr.alloc (.cells #[.int .i64 (N:Int),.int .i64 (N:Int),.slice a n c] 24)):=(Below.refl _ _).alloc (Nat.le_refl _) _
   have vq0:(wr.alloc (.cells #[.int .i64 (N:Int),.int .i64 (N:Int),.slice a n c] 24)).heap[wr.heap.size]?=some (.cells #[.int .i64 (N:Int),.int .i64 (N:Int),.slice a n c] 24 (0,0)):=by have h:=World.alloc_heap_new wr (.cells #[.int .i64 (N:Int),.int .i64 (N:Int),.slice a n c] 24);exact h
   generalize (wr.alloc (.cells #[.int .i64 (N:Int),.int .i64 (N:Int),.slice a n c] 24))=V at vsz vB vq0 ⊢
   have QV:=Lib.hid vq0
   have VB:=Lib.hid vB
   obtain ⟨x0,x1,x2,xl⟩:=c3_of vq0
   clear vq0 vB vsz g0 g1 g2
   go_wp2_with (first|(go_at_call 19;(with_reducible refine (lgreat_c (N:Int) (N:Int) a n c 16 _).mono ?_);rintro _ w1 ⟨rfl,hbw1⟩;have hkw1:Below V.heap.size V w1:=(by (repeat (first|assumption|exact Below.refl _ _|refine keep_drew ?_|refine keep_alloc ?_ _|refine keep_trans ?_ (by assumption))));obtain ⟨xw10,xw11,xw12,xw1l⟩:=c3_of (keepq hkw1 QV.out))|(go_at_call 22;(with_reducible refine (HA0.out _ (keep_trans (keep_trans (keep_trans (keep_trans FB.out HB1.out) hbr.out) VB.out) (by (repeat (first|assumption|exact Below.refl _ _|refine keep_drew ?_|refine keep_alloc ?_ _|refine keep_trans ?_ (by assumption)))))).mono ?_);rintro _ w2 ⟨rfl,hbw2⟩;have hkw2:Below V.heap.size V w2:=(by (repeat (first|assumption|exact Below.refl _ _|refine keep_drew ?_|refine keep_alloc ?_ _|refine keep_trans ?_ (by assumption))));obtain ⟨xw20,xw21,xw22,xw2l⟩:=c3_of (keepq hkw2 QV.out))|fail)
   go_roundw
   case rel=>exact ⟨1,by omega,by go_num,keep_trans hbr.out (keep_trans VB.out (show Below V.heap.size V w2 by (repeat (first|assumption|exact Below.refl _ _|refine keep_drew ?_|refine keep_alloc ?_ _|refine keep_trans ?_ (by assumption)))))⟩
   case measure=>simp[intOf]
  by_cases e1:k=1
  ·subst e1
   have g0:=q_cell hq 3
   have g1:=q_cell hq 4
   have g2:=q_cell hq 5
   go_upto_region 4 with fail
   have vsz:(wr.alloc (.cells #[.int .i64 (M:Int),.int .i64 (M:Int),.slice a2 n2 c2] 24)).heap.size=wr.heap.size+1:=by simp only[World.size_alloc]
   have vB:Below wr.heap.size wr (wr.alloc (.cells #[.int .i64 (M:Int),.int .i64 (M:Int),.slice a2 n2 c2] 24)):=(Below.refl _ _).alloc (Nat.le_refl _) _
   have vq0:(wr.alloc (.cells #[.int .i64 (M:Int),.int .i64 (M:Int),.slice a2 n2 c2] 24)).heap[wr.heap.size]?=some (.cells #[.int .i64 (M:Int),.int .i64 (M:Int),.slice a2 n2 c2] 24 (0,0)):=by have h:=World.alloc_heap_new wr (.cells #[.int .i64 (M:Int),.int .i64 (M:Int),.slice a2 n2 c2] 24);exact h
   generalize (wr.alloc (.cells #[.int .i64 (M:Int),.int .i64 (M:Int),.slice a2 n2 c2] 24))=V at vsz vB vq0 ⊢
   have QV:=Lib.hid vq0
   have VB:=Lib.hid vB
   obtain ⟨x0,x1,x2,xl⟩:=c3_of vq0
   clear vq0 vB vsz g0 g1 g2
   go_wp2_with (first|(go_at_call 19;(with_reducible refine (lgreat_c (M:Int) (M:Int) a2 n2 c2 16 _).mono ?_);rintro _ w1 ⟨rfl,hbw1⟩;have hkw1:Below V.heap.size V w1:=(by (repeat (first|assumption|exact Below.refl _ _|refine keep_drew ?_|refine keep_alloc ?_ _|refine keep_trans ?_ (by assumption))));obtain ⟨xw10,xw11,xw12,xw1l⟩:=c3_of (keepq hkw1 QV.out))|(go_at_call 22;(with_reducible refine (HA1.out _ (keep_trans (keep_trans (keep_trans (keep_trans FB.out HB1.out) hbr.out) VB.out) (by (repeat (first|assumption|exact Below.refl _ _|refine keep_drew ?_|refine keep_alloc ?_ _|refine keep_trans ?_ (by assumption)))))).mono ?_);rintro _ w2 ⟨rfl,hbw2⟩;have hkw2:Below V.heap.size V w2:=(by (repeat (first|assumption|exact Below.refl _ _|refine keep_drew ?_|refine keep_alloc ?_ _|refine keep_trans ?_ (by assumption))));obtain ⟨xw20,xw21,xw22,xw2l⟩:=c3_of (keepq hkw2 QV.out))|fail)
   go_roundw
   case rel=>exact ⟨2,by omega,by go_num,keep_trans hbr.out (keep_trans VB.out (show Below V.heap.size V w2 by (repeat (first|assumption|exact Below.refl _ _|refine keep_drew ?_|refine keep_alloc ?_ _|refine keep_trans ?_ (by assumption)))))⟩
   case measure=>simp[intOf]
  by_cases e2:k=2
  ·subst e2
   have g0:=q_cell hq 6
   have g1:=q_cell hq 7
   have g2:=q_cell hq 8
   go_upto_region 4 with fail
   have vsz:(wr.alloc (.cells #[.int .i64 (K:Int),.int .i64 (K:Int),.slice a3 n3 c3] 24)).heap.size=wr.heap.size+1:=by simp only[World.size_alloc]
   have vB:Below wr.heap.size wr (wr.alloc (.cells #[.int .i64 (K:Int),.int .i64 (K:Int),.slice a3 n3 c3] 24)):=(Below.refl _ _).alloc (Nat.le_refl _) _
   have vq0:(wr.alloc (.cells #[.int .i64 (K:Int),.int .i64 (K:Int),.slice a3 n3 c3] 24)).heap[wr.heap.size]?=some (.cells #[.int .i64 (K:Int),.int .i64 (K:Int),.slice a3 n3 c3] 24 (0,0)):=by have h:=World.alloc_heap_new wr (.cells #[.int .i64 (K:Int),.int .i64 (K:Int),.slice a3 n3 c3] 24);exact h
   generalize (wr.alloc (.cells #[.int .i64 (K:Int),.int .i64 (K:Int),.slice a3 n3 c3] 24))=V at vsz vB vq0 ⊢
   have QV:=Lib.hid vq0
   have VB:=Lib.hid vB
   obtain ⟨x0,x1,x2,xl⟩:=c3_of vq0
   clear vq0 vB vsz g0 g1 g2
   go_wp2_with (first|(go_at_call 19;(with_reducible refine (lgreat_c (K:Int) (K:Int) a3 n3 c3 16 _).mono ?_);rintro _ w1 ⟨rfl,hbw1⟩;have hkw1:Below V.heap.size V w1:=(by (repeat (first|assumption|exact Below.refl _ _|refine keep_drew ?_|refine keep_alloc ?_ _|refine keep_trans ?_ (by assumption))));obtain ⟨xw10,xw11,xw12,xw1l⟩:=c3_of (keepq hkw1 QV.out))|(go_at_call 22;(with_reducible refine (HA2.out _ (keep_trans (keep_trans (keep_trans (keep_trans FB.out HB1.out) hbr.out) VB.out) (by (repeat (first|assumption|exact Below.refl _ _|refine keep_drew ?_|refine keep_alloc ?_ _|refine keep_trans ?_ (by assumption)))))).mono ?_);rintro _ w2 ⟨rfl,hbw2⟩;have hkw2:Below V.heap.size V w2:=(by (repeat (first|assumption|exact Below.refl _ _|refine keep_drew ?_|refine keep_alloc ?_ _|refine keep_trans ?_ (by assumption))));obtain ⟨xw20,xw21,xw22,xw2l⟩:=c3_of (keepq hkw2 QV.out))|fail)
   go_roundw
   case rel=>exact ⟨3,by omega,by go_num,keep_trans hbr.out (keep_trans VB.out (show Below V.heap.size V w2 by (repeat (first|assumption|exact Below.refl _ _|refine keep_drew ?_|refine keep_alloc ?_ _|refine keep_trans ?_ (by assumption)))))⟩
   case measure=>simp[intOf]
  by_cases e3:k=3
  ·subst e3
   have HBR:=Lib.hid (keep_trans (keep_trans FB.out HB1.out) hbr.out)
   have hb0r:=keep_trans HB1.out hbr.out
   have P0:=Lib.hid (keepq hb0r Q0.out)
   have P1:=Lib.hid (keepq hb0r Q1.out)
   have P2:=Lib.hid (keepq hb0r Q2.out)
   clear hq hqz hb0r hbr
   obtain ⟨x0,x1,x2,xl⟩:=c3_of P0.out
   obtain ⟨y0,y1,y2,yl⟩:=c3_of P1.out
   obtain ⟨z0,z1,z2,zl⟩:=c3_of P2.out
   go_upto_region 8 with (first|(go_at_call 71;(with_reducible refine (HP.out _ HBR.out).mono ?_);rintro _ w2 ⟨a4,c4,rfl,hi4,hc4,hb2⟩)|fail)
   have gsz:(w2.alloc (.cells #[.int .i64 (p:Int),.int .i64 (p:Int),.slice a4 pp c4] 24)).heap.size=w2.heap.size+1:=by simp only[World.size_alloc]
   have gB:Below w2.heap.size w2 (w2.alloc (.cells #[.int .i64 (p:Int),.int .i64 (p:Int),.slice a4 pp c4] 24)):=(Below.refl _ _).alloc (Nat.le_refl _) _
   have gq0:(w2.alloc (.cells #[.int .i64 (p:Int),.int .i64 (p:Int),.slice a4 pp c4] 24)).heap[w2.heap.size]?=some (.cells #[.int .i64 (p:Int),.int .i64 (p:Int),.slice a4 pp c4] 24 (0,0)):=by have h:=World.alloc_heap_new w2 (.cells #[.int .i64 (p:Int),.int .i64 (p:Int),.slice a4 pp c4] 24);exact h
   generalize (w2.alloc (.cells #[.int .i64 (p:Int),.int .i64 (p:Int),.slice a4 pp c4] 24))=V3 at gsz gB gq0 ⊢
   have hb23:=keep_trans hb2 gB
   have Q3:=Lib.hid gq0
   have Q0:=Lib.hid (keepq hb23 P0.out)
   have Q1:=Lib.hid (keepq hb23 P1.out)
   have Q2:=Lib.hid (keepq hb23 P2.out)
   have HB3:=Lib.hid (keep_trans HBR.out hb23)
   have HI3:=Lib.hid (hi4.mono gB)
   clear gsz gq0 gB hb2 hi4 hb23 x0 x1 x2 xl y0 y1 y2 yl z0 z1 z2 zl
   obtain ⟨x0,x1,x2,xl⟩:=c3_of Q0.out
   obtain ⟨y0,y1,y2,yl⟩:=c3_of Q1.out
   obtain ⟨z0,z1,z2,zl⟩:=c3_of Q2.out
   obtain ⟨g0,g1,g2,gl⟩:=c3_of Q3.out
   go_upto_region 13 with (first|(go_at_call 22;(with_reducible refine (HPC.out _ _ _ HI3.out).mono ?_);rintro _ v1 ⟨rfl,hbv1⟩;have hkv1:Below V3.heap.size V3 v1:=(by (repeat (first|assumption|exact Below.refl _ _|refine keep_drew ?_|refine keep_alloc ?_ _|refine keep_trans ?_ (by assumption))));obtain ⟨xv10,xv11,xv12,xv1l⟩:=c3_of (keepq hkv1 Q0.out);obtain ⟨yv10,yv11,yv12,yv1l⟩:=c3_of (keepq hkv1 Q1.out);obtain ⟨zv10,zv11,zv12,zv1l⟩:=c3_of (keepq hkv1 Q2.out);obtain ⟨gv10,gv11,gv12,gv1l⟩:=c3_of (keepq hkv1 Q3.out))|(go_at_call 72;(with_reducible refine (HKA.out _ (keep_trans HB3.out (by (repeat (first|assumption|exact Below.refl _ _|refine keep_drew ?_|refine keep_alloc ?_ _|refine keep_trans ?_ (by assumption)))))).mono ?_);rintro _ v2 ⟨aA,nA,cA,rfl,sA,hbv2⟩;have hkv2:Below V3.heap.size V3 v2:=(by (repeat (first|assumption|exact Below.refl _ _|refine keep_drew ?_|refine keep_alloc ?_ _|refine keep_trans ?_ (by assumption))));obtain ⟨xv20,xv21,xv22,xv2l⟩:=c3_of (keepq hkv2 Q0.out);obtain ⟨yv20,yv21,yv22,yv2l⟩:=c3_of (keepq hkv2 Q1.out);obtain ⟨zv20,zv21,zv22,zv2l⟩:=c3_of (keepq hkv2 Q2.out);obtain ⟨gv20,gv21,gv22,gv2l⟩:=c3_of (keepq hkv2 Q3.out))|(go_at_call 72;(with_reducible refine (HKB.out _ (keep_trans HB3.out (by (repeat (first|assumption|exact Below.refl _ _|refine keep_drew ?_|refine keep_alloc ?_ _|refine keep_trans ?_ (by assumption)))))).mono ?_);rintro _ v3 ⟨aB,nB,cB,rfl,sB,hbv3⟩;have hkv3:Below V3.heap.size V3 v3:=(by (repeat (first|assumption|exact Below.refl _ _|refine keep_drew ?_|refine keep_alloc ?_ _|refine keep_trans ?_ (by assumption))));obtain ⟨xv30,xv31,xv32,xv3l⟩:=c3_of (keepq hkv3 Q0.out);obtain ⟨yv30,yv31,yv32,yv3l⟩:=c3_of (keepq hkv3 Q1.out);obtain ⟨zv30,zv31,zv32,zv3l⟩:=c3_of (keepq hkv3 Q2.out);obtain ⟨gv30,gv31,gv32,gv3l⟩:=c3_of (keepq hkv3 Q3.out))|(go_at_call 72;(with_reducible refine (HKP.out _ _ _ (HI3.out.mono (by (repeat (first|assumption|exact Below.refl _ _|refine keep_drew ?_|refine keep_alloc ?_ _|refine keep_trans ?_ (by assumption))))) hc4).mono ?_);rintro _ v4 ⟨aP,nP,cP,rfl,sP,hbv4⟩;have hkv4:Below V3.heap.size V3 v4:=(by (repeat (first|assumption|exact Below.refl _ _|refine keep_drew ?_|refine keep_alloc ?_ _|refine keep_trans ?_ (by assumption))));obtain ⟨xv40,xv41,xv42,xv4l⟩:=c3_of (keepq hkv4 Q0.out);obtain ⟨yv40,yv41,yv42,yv4l⟩:=c3_of (keepq hkv4 Q1.out);obtain ⟨zv40,zv41,zv42,zv4l⟩:=c3_of (keepq hkv4 Q2.out);obtain ⟨gv40,gv41,gv42,gv4l⟩:=c3_of (keepq hkv4 Q3.out))|fail)
   have hB4:Below V3.heap.size V3 v4:=by (repeat (first|assumption|exact Below.refl _ _|refine keep_drew ?_|refine keep_alloc ?_ _|refine keep_trans ?_ (by assumption)))
   have sA4:SC v4 aA nA lA:=sA.mono (keep_trans hbv3 hbv4)
   have sB4:SC v4 aB nB lB:=sB.mono hbv4
   have HHA:=Lib.hid (fun W (hb:Below v4.heap.size v4 W)=>lhas_c aA nA cA lA W (sA4.mono hb))
   have HHB:=Lib.hid (fun W (hb:Below v4.heap.size v4 W)=>lhas_c aB nB cB lB W (sB4.mono hb))
   have HHP:=Lib.hid (fun W (hb:Below v4.heap.size v4 W)=>lhas_c aP nP cP lP W (sP.mono hb))
   rw[EA.out] at HHA
   rw[EB.out] at HHB
   rw[EP.out] at HHP
   have R0:=Lib.hid (keepq hB4 Q0.out)
   have R1:=Lib.hid (keepq hB4 Q1.out)
   have R2:=Lib.hid (keepq hB4 Q2.out)
   have R3:=Lib.hid (keepq hB4 Q3.out)
   have HB4:=Lib.hid (keep_trans HB3.out hB4)
   have HI4:=Lib.hid (HI3.out.mono hB4)
   clear x0 x1 x2 xl y0 y1 y2 yl z0 z1 z2 zl g0 g1 g2 gl
   clear xv10 xv11 xv12 xv1l yv10 yv11 yv12 yv1l zv10 zv11 zv12 zv1l gv10 gv11 gv12 gv1l xv20 xv21 xv22 xv2l yv20 yv21 yv22 yv2l zv20 zv21 zv22 zv2l gv20 gv21 gv22 gv2l xv30 xv31 xv32 xv3l yv30 yv31 yv32 yv3l zv30 zv31 zv32 zv3l gv30 gv31 gv32 gv3l xv40 xv41 xv42 xv4l yv40 yv41 yv42 yv4l zv40 zv41 zv42 zv4l gv40 gv41 gv42 gv4l hkv1 hbv1 hkv2 hbv2 hkv3 hbv3 hkv4 hbv4 hB4 sA sB sP sA4 sB4
   obtain ⟨x0,x1,x2,xl⟩:=c3_of R0.out
   obtain ⟨y0,y1,y2,yl⟩:=c3_of R1.out
   obtain ⟨z0,z1,z2,zl⟩:=c3_of R2.out
   obtain ⟨g0,g1,g2,gl⟩:=c3_of R3.out
   go_wp2_with (first|(go_at_call 73;(with_reducible refine (HHA.out _ (by (repeat (first|assumption|exact Below.refl _ _|refine keep_drew ?_|refine keep_alloc ?_ _|refine keep_trans ?_ (by assumption))))).mono ?_);rintro _ u1 ⟨rfl,hbu1⟩;have hku1:Below v4.heap.size v4 u1:=(by (repeat (first|assumption|exact Below.refl _ _|refine keep_drew ?_|refine keep_alloc ?_ _|refine keep_trans ?_ (by assumption))));obtain ⟨xu10,xu11,xu12,xu1l⟩:=c3_of (keepq hku1 R0.out);obtain ⟨yu10,yu11,yu12,yu1l⟩:=c3_of (keepq hku1 R1.out);obtain ⟨zu10,zu11,zu12,zu1l⟩:=c3_of (keepq hku1 R2.out);obtain ⟨gu10,gu11,gu12,gu1l⟩:=c3_of (keepq hku1 R3.out))|(go_at_call 73;(with_reducible refine (HHB.out _ (by (repeat (first|assumption|exact Below.refl _ _|refine keep_drew ?_|refine keep_alloc ?_ _|refine keep_trans ?_ (by assumption))))).mono ?_);rintro _ u2 ⟨rfl,hbu2⟩;have hku2:Below v4.heap.size v4 u2:=(by (repeat (first|assumption|exact Below.refl _ _|refine keep_drew ?_|refine keep_alloc ?_ _|refine keep_trans ?_ (by assumption))));obtain ⟨xu20,xu21,xu22,xu2l⟩:=c3_of (keepq hku2 R0.out);obtain ⟨yu20,yu21,yu22,yu2l⟩:=c3_of (keepq hku2 R1.out);obtain ⟨zu20,zu21,zu22,zu2l⟩:=c3_of (keepq hku2 R2.out);obtain ⟨gu20,gu21,gu22,gu2l⟩:=c3_of (keepq hku2 R3.out))|(go_at_call 73;(with_reducible refine (HHP.out _ (by (repeat (first|assumption|exact Below.refl _ _|refine keep_drew ?_|refine keep_alloc ?_ _|refine keep_trans ?_ (by assumption))))).mono ?_);rintro _ u3 ⟨rfl,hbu3⟩;have hku3:Below v4.heap.size v4 u3:=(by (repeat (first|assumption|exact Below.refl _ _|refine keep_drew ?_|refine keep_alloc ?_ _|refine keep_trans ?_ (by assumption))));obtain ⟨xu30,xu31,xu32,xu3l⟩:=c3_of (keepq hku3 R0.out);obtain ⟨yu30,yu31,yu32,yu3l⟩:=c3_of (keepq hku3 R1.out);obtain ⟨zu30,zu31,zu32,zu3l⟩:=c3_of (keepq hku3 R2.out);obtain ⟨gu30,gu31,gu32,gu3l⟩:=c3_of (keepq hku3 R3.out))|(go_at_call 20;refine (awake4_c _).mono ?_;rintro _ wz ⟨rfl,hbz⟩)|fail)
   refine bodyPost_ret (v := .bool true) ?_ rfl ⟨rfl,keep_trans HB4.out (show Below v4.heap.size v4 wz by (repeat (first|assumption|exact Below.refl _ _|refine keep_drew ?_|refine keep_alloc ?_ _|refine keep_trans ?_ (by assumption))))⟩
   simp[results,Tryz.f13,go_sem]
  ·omega
theorem lprod_sft (N M K:Nat) (a:Option Addr) (n c:Nat) (a2:Option Addr) (n2 c2:Nat) (a3:Option Addr) (n3 c3:Nat) (w:World) (h0:¬16<n) (h1:¬16<n2) (h2:¬16<n3) (p pp:Nat) (hp:(N:Int)*(M:Int)=(p:Int)) (hp16:p≤16) (X:List Int) (lA lB lP:List ByteArray) (kB:Bool) (eA:lA.any isGr=false) (eB:lB.any isGr=kB) (eP:lP.any isGr=(false&&kB)) (Y:List Int) (o2:Bool) (hKN:((K:Int) != (N:Int))=false)
  (HA0:∀W,Below w.heap.size w W→Calls Tryz.prog 22 #[.agg #[.int .i64 (N:Int),.int .i64 (N:Int),.slice a n c]] W fun e w'=>e = .returned (.int .i64 0)∧Below W.heap.size W w')
  (HA1:∀W,Below w.heap.size w W→Calls Tryz.prog 22 #[.agg #[.int .i64 (M:Int),.int .i64 (M:Int),.slice a2 n2 c2]] W fun e w'=>e = .returned (.int .i64 0)∧Below W.heap.size W w')
  (HA2:∀W,Below w.heap.size w W→Calls Tryz.prog 22 #[.agg #[.int .i64 (K:Int),.int .i64 (K:Int),.slice a3 n3 c3]] W fun e w'=>e = .returned (.int .i64 0)∧Below W.heap.size W w')
  (HP:∀W,Below w.heap.size w W→Calls Tryz.prog 71 #[.agg #[.int .i64 (N:Int),.int .i64 (N:Int),.slice a n c],.agg #[.int .i64 (M:Int),.int .i64 (M:Int),.slice a2 n2 c2]] W fun e w'=>∃a4 c4,e = .returned (.tuple #[.agg #[.int .i64 (p:Int),.int .i64 (p:Int),.slice a4 pp c4],.int .i64 0])∧IC w' a4 pp X∧pp≤c4∧Below W.heap.size W w')
  (HPC:∀W a4 c4,IC W a4 pp X→Calls Tryz.prog 22 #[.agg #[.int .i64 (p:Int),.int .i64 (p:Int),.slice a4 pp c4]] W fun e w'=>e = .returned (.int .i64 0)∧Below W.heap.size W w')
  (HKA:∀W,Below w.heap.size w W→Calls Tryz.prog 72 #[.agg #[.int .i64 (N:Int),.int .i64 (N:Int),.slice a n c]] W fun e w'=>∃a5 k5 c5,e = .returned (.tuple #[.slice a5 k5 c5,.int .i64 0])∧SC w' a5 k5 lA∧Below W.heap.size W w')
  (HKB:∀W,Below w.heap.size w W→Calls Tryz.prog 72 #[.agg #[.int .i64 (M:Int),.int .i64 (M:Int),.slice a2 n2 c2]] W fun e w'=>∃a5 k5 c5,e = .returned (.tuple #[.slice a5 k5 c5,.int .i64 0])∧SC w' a5 k5 lB∧Below W.heap.size W w')
  (HKP:∀W a4 c4,IC W a4 pp X→pp≤c4→Calls Tryz.prog 72 #[.agg #[.int .i64 (p:Int),.int .i64 (p:Int),.slice a4 pp c4]] W fun e w'=>∃a5 k5 c5,e = .returned (.tuple #[.slice a5 k5 c5,.int .i64 0])∧SC w' a5 k5 lP∧Below W.heap.size W w')
  (HP2:∀W,Below w.heap.size w W→Calls Tryz.prog 71 #[.agg #[.int .i64 (K:Int),.int .i64 (K:Int),.slice a3 n3 c3],.agg #[.int .i64 (M:Int),.int .i64 (M:Int),.slice a2 n2 c2]] W fun e w'=>∃a4 c4,e = .returned (.tuple #[.agg #[.int .i64 (p:Int),.int .i64 (p:Int),.slice a4 pp c4],.int .i64 0])∧IC w' a4 pp Y∧pp≤c4∧Below W.heap.size W w')
  (HO1:∀W,Below w.heap.size w W→Calls Tryz.prog 45 #[.agg #[.int .i64 (N:Int),.int .i64 (N:Int),.slice a n c],.agg #[.int .i64 (K:Int),.int .i64 (K:Int),.slice a3 n3 c3]] W fun e w'=>e = .returned (.tuple #[.bool true,.int .i64 0])∧Below W.heap.size W w')
  (HO2:∀W,Below w.heap.size w W→Calls Tryz.prog 45 #[.agg #[.int .i64 (M:Int),.int .i64 (M:Int),.slice a2 n2 c2],.agg #[.int .i64 (M:Int),.int .i64 (M:Int),.slice a2 n2 c2]] W fun e w'=>e = .returned (.tuple #[.bool o2,.int .i64 0])∧Below W.heap.size W w')
  (HO3:∀W a4 c4 a9 c9,IC W a4 pp X→IC W a9 pp Y→Calls Tryz.prog 45 #[.agg #[.int .i64 (p:Int),.int .i64 (p:Int),.slice a4 pp c4],.agg #[.int .i64 (p:Int),.int .i64 (p:Int),.slice a9 pp c9]] W fun e w'=>e = .returned (.tuple #[.bool (true&&o2),.int .i64 0])∧Below W.heap.size W w')
  : Calls Tryz.prog 13 #[.agg #[.int .i64 (N:Int),.int .i64 (N:Int),.slice a n c],.agg #[.int .i64 (M:Int),.int .i64 (M:Int),.slice a2 n2 c2],.agg #[.int .i64 (K:Int),.int .i64 (K:Int),.slice a3 n3 c3]] w fun e w'=>e = .returned (.bool true)∧Below w.heap.size w w':=by
 have hg0:decide ((16:Int)<(n:Int))=false:=decide_eq_false (by omega)
 have hg1:decide ((16:Int)<(n2:Int))=false:=decide_eq_false (by omega)
 have hg2:decide ((16:Int)<(n3:Int))=false:=decide_eq_false (by omega)
 have HA0:=Lib.hid HA0
 have HA1:=Lib.hid HA1
 have HA2:=Lib.hid HA2
 have HP:=Lib.hid HP
 have HPC:=Lib.hid HPC
 have HKA:=Lib.hid HKA
 have HKB:=Lib.hid HKB
 have HKP:=Lib.hid HKP
 have HP2:=Lib.hid HP2
 have HO1:=Lib.hid HO1
 have HO2:=Lib.hid HO2
 have HO3:=Lib.hid HO3
 have EA:=Lib.hid eA
 have EB:=Lib.hid eB
 have EP:=Lib.hid eP
 have hpn:((p:Int) != (p:Int))=false:=by simp
 have hkk:(kB != kB)=false:=by cases kB <;> rfl
 clear eA eB eP
 have hoo:(o2==o2)=true:=by cases o2 <;> rfl
 go_enter Tryz.func13,Tryz.ntmps13
 go_upto_region 1 with fail
 have fsz:(((w.alloc (.cells #[.int .i64 (N:Int),.int .i64 (N:Int),.slice a n c] 24)).alloc (.cells #[.int .i64 (M:Int),.int .i64 (M:Int),.slice a2 n2 c2] 24)).alloc (.cells #[.int .i64 (K:Int),.int .i64 (K:Int),.slice a3 n3 c3] 24)).heap.size=w.heap.size+3:=by simp only[World.size_alloc] <;> omega
 have fB:Below w.heap.size w (((w.alloc (.cells #[.int .i64 (N:Int),.int .i64 (N:Int),.slice a n c] 24)).alloc (.cells #[.int .i64 (M:Int),.int .i64 (M:Int),.slice a2 n2 c2] 24)).alloc (.cells #[.int .i64 (K:Int),.int .i64 (K:Int),.slice a3 n3 c3] 24)):=(((Below.refl _ _).alloc (Nat.le_refl _) _).alloc (by simp only[World.size_alloc];omega) _).alloc (by simp only[World.size_alloc];omega) _
 have fq0:(((w.alloc (.cells #[.int .i64 (N:Int),.int .i64 (N:Int),.slice a n c] 24)).alloc (.cells #[.int .i64 (M:Int),.int .i64 (M:Int),.slice a2 n2 c2] 24)).alloc (.cells #[.int .i64 (K:Int),.int .i64 (K:Int),.slice a3 n3 c3] 24)).heap[w.heap.size]?=some (.cells #[.int .i64 (N:Int),.int .i64 (N:Int),.slice a n c] 24 (0,0)):=by have h:=World.alloc_heap_new w (.cells #[.int .i64 (N:Int),.int .i64 (N:Int),.slice a n c] 24);exact (Below.heap_alloc _ _ _ (by simp only[World.size_alloc];omega)).trans ((Below.heap_alloc _ _ _ (by simp only[World.size_alloc];omega)).trans (h))
 have fq1:(((w.alloc (.cells #[.int .i64 (N:Int),.int .i64 (N:Int),.slice a n c] 24)).alloc (.cells #[.int .i64 (M:Int),.int .i64 (M:Int),.slice a2 n2 c2] 24)).alloc (.cells #[.int .i64 (K:Int),.int .i64 (K:Int),.slice a3 n3 c3] 24)).heap[w.heap.size+1]?=some (.cells #[.int .i64 (M:Int),.int .i64 (M:Int),.slice a2 n2 c2] 24 (0,0)):=by have h:=World.alloc_heap_new (w.alloc (.cells #[.int .i64 (N:Int),.int .i64 (N:Int),.slice a n c] 24)) (.cells #[.int .i64 (M:Int),.int .i64 (M:Int),.slice a2 n2 c2] 24);simp only[World.size_alloc] at h;exact (Below.heap_alloc _ _ _ (by simp only[World.size_alloc];omega)).trans (h)
 have fq2:(((w.alloc (.cells #[.int .i64 (N:Int),.int .i64 (N:Int),.slice a n c] 24)).alloc (.cells #[.int .i64 (M:Int),.int .i64 (M:Int),.slice a2 n2 c2] 24)).alloc (.cells #[.int .i64 (K:Int),.int .i64 (K:Int),.slice a3 n3 c3] 24)).heap[w.heap.size+1+1]?=some (.cells #[.int .i64 (K:Int),.int .i64 (K:Int),.slice a3 n3 c3] 24 (0,0)):=by have h:=World.alloc_heap_new ((w.alloc (.cells #[.int .i64 (N:Int),.int .i64 (N:Int),.slice a n c] 24)).alloc (.cells #[.int .i64 (M:Int),.int .i64 (M:Int),.slice a2 n2 c2] 24)) (.cells #[.int .i64 (K:Int),.int .i64 (K:Int),.slice a3 n3 c3] 24);simp only[World.size_alloc] at h;exact h
 generalize (((w.alloc (.cells #[.int .i64 (N:Int),.int .i64 (N:Int),.slice a n c] 24)).alloc (.cells #[.int .i64 (M:Int),.int .i64 (M:Int),.slice a2 n2 c2] 24)).alloc (.cells #[.int .i64 (K:Int),.int .i64 (K:Int),.slice a3 n3 c3] 24))=W0 at fsz fB fq0 fq1 fq2 ⊢
 have Q0:=Lib.hid fq0
 have Q1:=Lib.hid fq1
 have Q2:=Lib.hid fq2
 have FB:=Lib.hid fB
 obtain ⟨x0,x1,x2,xl⟩:=c3_of fq0
 obtain ⟨y0,y1,y2,yl⟩:=c3_of fq1
 obtain ⟨z0,z1,z2,zl⟩:=c3_of fq2
 clear fq0 fq1 fq2 fsz fB
 go_upto_region 2 with fail
 have hq9:=World.alloc_heap_new W0 (.cells #[.int .i64 (N:Int),.int .i64 (N:Int),.slice a n c,.int .i64 (M:Int),.int .i64 (M:Int),.slice a2 n2 c2,.int .i64 (K:Int),.int .i64 (K:Int),.slice a3 n3 c3] 24)
 have hb9:Below W0.heap.size W0 (W0.alloc (.cells #[.int .i64 (N:Int),.int .i64 (N:Int),.slice a n c,.int .i64 (M:Int),.int .i64 (M:Int),.slice a2 n2 c2,.int .i64 (K:Int),.int .i64 (K:Int),.slice a3 n3 c3] 24)):=keep_alloc (Below.refl _ _) _
 generalize (W0.alloc (.cells #[.int .i64 (N:Int),.int .i64 (N:Int),.slice a n c,.int .i64 (M:Int),.int .i64 (M:Int),.slice a2 n2 c2,.int .i64 (K:Int),.int .i64 (K:Int),.slice a3 n3 c3] 24))=W1 at hq9 hb9 ⊢
 have HQ9:=Lib.hid hq9
 have HB1:=Lib.hid hb9
 clear x0 x1 x2 xl y0 y1 y2 yl z0 z1 z2 zl hq9 hb9
 go_loopw [8,30] (fun _ s30 wr=>∃k:Nat,k≤3∧s30 = .int .i64 (k:Int)∧Hid (Below W1.heap.size W1 wr)) (fun _ s30 _=>3 - (intOf s30).toNat)
 case atStart=>exact ⟨0,by omega,rfl,Below.refl _ _⟩
 case round =>
  obtain ⟨k,hk,rfl,hbr⟩:=hrel
  have hq:=keepq hbr.out HQ9.out
  have hqz:=q_lt hq
  by_cases e0:k=0
  ·subst e0
   have g0:=q_cell hq 0
   have g1:=q_cell hq 1
   have g2:=q_cell hq 2
   go_upto_region 4 with fail
   have vsz:(wr.alloc (.cells #[.int .i64 (N:Int),.int .i64 (N:Int),.slice a n c] 24)).heap.size=wr.heap.size+1:=by simp only[World.size_alloc]
   have vB:Below wr.heap.size wr (wr.alloc (.cells #[.int .i64 (N:Int),.int .i64 (N:Int),.slice a n c] 24)):=(Below.refl _ _).alloc (Nat.le_refl _) _
   have vq0:(wr.alloc (.cells #[.int .i64 (N:Int),.int .i64 (N:Int),.slice a n c] 24)).heap[wr.heap.size]?=some (.cells #[.int .i64 (N:Int),.int .i64 (N:Int),.slice a n c] 24 (0,0)):=by have h:=World.alloc_heap_new wr (.cells #[.int .i64 (N:Int),.int .i64 (N:Int),.slice a n c] 24);exact h
   generalize (wr.alloc (.cells #[.int .i64 (N:Int),.int .i64 (N:Int),.slice a n c] 24))=V at vsz vB vq0 ⊢
   have QV:=Lib.hid vq0
   have VB:=Lib.hid vB
   obtain ⟨x0,x1,x2,xl⟩:=c3_of vq0
   clear vq0 vB vsz g0 g1 g2
   go_wp2_with (first|(go_at_call 19;(with_reducible refine (lgreat_c (N:Int) (N:Int) a n c 16 _).mono ?_);rintro _ w1 ⟨rfl,hbw1⟩;have hkw1:Below V.heap.size V w1:=(by (repeat (first|assumption|exact Below.refl _ _|refine keep_drew ?_|refine keep_alloc ?_ _|refine keep_trans ?_ (by assumption))));obtain ⟨xw10,xw11,xw12,xw1l⟩:=c3_of (keepq hkw1 QV.out))|(go_at_call 22;(with_reducible refine (HA0.out _ (keep_trans (keep_trans (keep_trans (keep_trans FB.out HB1.out) hbr.out) VB.out) (by (repeat (first|assumption|exact Below.refl _ _|refine keep_drew ?_|refine keep_alloc ?_ _|refine keep_trans ?_ (by assumption)))))).mono ?_);rintro _ w2 ⟨rfl,hbw2⟩;have hkw2:Below V.heap.size V w2:=(by (repeat (first|assumption|exact Below.refl _ _|refine keep_drew ?_|refine keep_alloc ?_ _|refine keep_trans ?_ (by assumption))));obtain ⟨xw20,xw21,xw22,xw2l⟩:=c3_of (keepq hkw2 QV.out))|fail)
   go_roundw
   case rel=>exact ⟨1,by omega,by go_num,keep_trans hbr.out (keep_trans VB.out (show Below V.heap.size V w2 by (repeat (first|assumption|exact Below.refl _ _|refine keep_drew ?_|refine keep_alloc ?_ _|refine keep_trans ?_ (by assumption)))))⟩
   case measure=>simp[intOf]
  by_cases e1:k=1
  ·subst e1
   have g0:=q_cell hq 3
   have g1:=q_cell hq 4
   have g2:=q_cell hq 5
   go_upto_region 4 with fail
   have vsz:(wr.alloc (.cells #[.int .i64 (M:Int),.int .i64 (M:Int),.slice a2 n2 c2] 24)).heap.size=wr.heap.size+1:=by simp only[World.size_alloc]
   have vB:Below wr.heap.size wr (wr.alloc (.cells #[.int .i64 (M:Int),.int .i64 (M:Int),.slice a2 n2 c2] 24)):=(Below.refl _ _).alloc (Nat.le_refl _) _
   have vq0:(wr.alloc (.cells #[.int .i64 (M:Int),.int .i64 (M:Int),.slice a2 n2 c2] 24)).heap[wr.heap.size]?=some (.cells #[.int .i64 (M:Int),.int .i64 (M:Int),.slice a2 n2 c2] 24 (0,0)):=by have h:=World.alloc_heap_new wr (.cells #[.int .i64 (M:Int),.int .i64 (M:Int),.slice a2 n2 c2] 24);exact h
   generalize (wr.alloc (.cells #[.int .i64 (M:Int),.int .i64 (M:Int),.slice a2 n2 c2] 24))=V at vsz vB vq0 ⊢
   have QV:=Lib.hid vq0
   have VB:=Lib.hid vB
   obtain ⟨x0,x1,x2,xl⟩:=c3_of vq0
   clear vq0 vB vsz g0 g1 g2
   go_wp2_with (first|(go_at_call 19;(with_reducible refine (lgreat_c (M:Int) (M:Int) a2 n2 c2 16 _).mono ?_);rintro _ w1 ⟨rfl,hbw1⟩;have hkw1:Below V.heap.size V w1:=(by (repeat (first|assumption|exact Below.refl _ _|refine keep_drew ?_|refine keep_alloc ?_ _|refine keep_trans ?_ (by assumption))));obtain ⟨xw10,xw11,xw12,xw1l⟩:=c3_of (keepq hkw1 QV.out))|(go_at_call 22;(with_reducible refine (HA1.out _ (keep_trans (keep_trans (keep_trans (keep_trans FB.out HB1.out) hbr.out) VB.out) (by (repeat (first|assumption|exact Below.refl _ _|refine keep_drew ?_|refine keep_alloc ?_ _|refine keep_trans ?_ (by assumption)))))).mono ?_);rintro _ w2 ⟨rfl,hbw2⟩;have hkw2:Below V.heap.size V w2:=(by (repeat (first|assumption|exact Below.refl _ _|refine keep_drew ?_|refine keep_alloc ?_ _|refine keep_trans ?_ (by assumption))));obtain ⟨xw20,xw21,xw22,xw2l⟩:=c3_of (keepq hkw2 QV.out))|fail)
   go_roundw
   case rel=>exact ⟨2,by omega,by go_num,keep_trans hbr.out (keep_trans VB.out (show Below V.heap.size V w2 by (repeat (first|assumption|exact Below.refl _ _|refine keep_drew ?_|refine keep_alloc ?_ _|refine keep_trans ?_ (by assumption)))))⟩
   case measure=>simp[intOf]
  by_cases e2:k=2
  ·subst e2
   have g0:=q_cell hq 6
   have g1:=q_cell hq 7
   have g2:=q_cell hq 8
   go_upto_region 4 with fail
   have vsz:(wr.alloc (.cells #[.int .i64 (K:Int),.int .i64 (K:Int),.slice a3 n3 c3] 24)).heap.size=wr.heap.size+1:=by simp only[World.size_alloc]
   have vB:Below wr.heap.size wr (wr.alloc (.cells #[.int .i64 (K:Int),.int .i64 (K:Int),.slice a3 n3 c3] 24)):=(Below.refl _ _).alloc (Nat.le_refl _) _
   have vq0:(wr.alloc (.cells #[.int .i64 (K:Int),.int .i64 (K:Int),.slice a3 n3 c3] 24)).heap[wr.heap.size]?=some (.cells #[.int .i64 (K:Int),.int .i64 (K:Int),.slice a3 n3 c3] 24 (0,0)):=by have h:=World.alloc_heap_new wr (.cells #[.int .i64 (K:Int),.int .i64 (K:Int),.slice a3 n3 c3] 24);exact h
   generalize (wr.alloc (.cells #[.int .i64 (K:Int),.int .i64 (K:Int),.slice a3 n3 c3] 24))=V at vsz vB vq0 ⊢
   have QV:=Lib.hid vq0
   have VB:=Lib.hid vB
   obtain ⟨x0,x1,x2,xl⟩:=c3_of vq0
   clear vq0 vB vsz g0 g1 g2
   go_wp2_with (first|(go_at_call 19;(with_reducible refine (lgreat_c (K:Int) (K:Int) a3 n3 c3 16 _).mono ?_);rintro _ w1 ⟨rfl,hbw1⟩;have hkw1:Below V.heap.size V w1:=(by (repeat (first|assumption|exact Below.refl _ _|refine keep_drew ?_|refine keep_alloc ?_ _|refine keep_trans ?_ (by assumption))));obtain ⟨xw10,xw11,xw12,xw1l⟩:=c3_of (keepq hkw1 QV.out))|(go_at_call 22;(with_reducible refine (HA2.out _ (keep_trans (keep_trans (keep_trans (keep_trans FB.out HB1.out) hbr.out) VB.out) (by (repeat (first|assumption|exact Below.refl _ _|refine keep_drew ?_|refine keep_alloc ?_ _|refine keep_trans ?_ (by assumption)))))).mono ?_);rintro _ w2 ⟨rfl,hbw2⟩;have hkw2:Below V.heap.size V w2:=(by (repeat (first|assumption|exact Below.refl _ _|refine keep_drew ?_|refine keep_alloc ?_ _|refine keep_trans ?_ (by assumption))));obtain ⟨xw20,xw21,xw22,xw2l⟩:=c3_of (keepq hkw2 QV.out))|fail)
   go_roundw
   case rel=>exact ⟨3,by omega,by go_num,keep_trans hbr.out (keep_trans VB.out (show Below V.heap.size V w2 by (repeat (first|assumption|exact Below.refl _ _|refine keep_drew ?_|refine keep_alloc ?_ _|refine keep_trans ?_ (by assumption)))))⟩
   case measure=>simp[intOf]
  by_cases e3:k=3
  ·subst e3
   have HBR:=Lib.hid (keep_trans (keep_trans FB.out HB1.out) hbr.out)
   have hb0r:=keep_trans HB1.out hbr.out
   have P0:=Lib.hid (keepq hb0r Q0.out)
   have P1:=Lib.hid (keepq hb0r Q1.out)
   have P2:=Lib.hid (keepq hb0r Q2.out)
   clear hq hqz hb0r hbr
   obtain ⟨x0,x1,x2,xl⟩:=c3_of P0.out
   obtain ⟨y0,y1,y2,yl⟩:=c3_of P1.out
   obtain ⟨z0,z1,z2,zl⟩:=c3_of P2.out
   go_upto_region 8 with (first|(go_at_call 71;(with_reducible refine (HP.out _ HBR.out).mono ?_);rintro _ w2 ⟨a4,c4,rfl,hi4,hc4,hb2⟩)|fail)
   have gsz:(w2.alloc (.cells #[.int .i64 (p:Int),.int .i64 (p:Int),.slice a4 pp c4] 24)).heap.size=w2.heap.size+1:=by simp only[World.size_alloc]
   have gB:Below w2.heap.size w2 (w2.alloc (.cells #[.int .i64 (p:Int),.int .i64 (p:Int),.slice a4 pp c4] 24)):=(Below.refl _ _).alloc (Nat.le_refl _) _
   have gq0:(w2.alloc (.cells #[.int .i64 (p:Int),.int .i64 (p:Int),.slice a4 pp c4] 24)).heap[w2.heap.size]?=some (.cells #[.int .i64 (p:Int),.int .i64 (p:Int),.slice a4 pp c4] 24 (0,0)):=by have h:=World.alloc_heap_new w2 (.cells #[.int .i64 (p:Int),.int .i64 (p:Int),.slice a4 pp c4] 24);exact h
   generalize (w2.alloc (.cells #[.int .i64 (p:Int),.int .i64 (p:Int),.slice a4 pp c4] 24))=V3 at gsz gB gq0 ⊢
   have hb23:=keep_trans hb2 gB
   have Q3:=Lib.hid gq0
   have Q0:=Lib.hid (keepq hb23 P0.out)
   have Q1:=Lib.hid (keepq hb23 P1.out)
   have Q2:=Lib.hid (keepq hb23 P2.out)
   have HB3:=Lib.hid (keep_trans HBR.out hb23)
   have HI3:=Lib.hid (hi4.mono gB)
   clear gsz gq0 gB hb2 hi4 hb23 x0 x1 x2 xl y0 y1 y2 yl z0 z1 z2 zl
   obtain ⟨x0,x1,x2,xl⟩:=c3_of Q0.out
   obtain ⟨y0,y1,y2,yl⟩:=c3_of Q1.out
   obtain ⟨z0,z1,z2,zl⟩:=c3_of Q2.out
   obtain ⟨g0,g1,g2,gl⟩:=c3_of Q3.out
   go_upto_region 13 with (first|(go_at_call 22;(with_reducible refine (HPC.out _ _ _ HI3.out).mono ?_);rintro _ v1 ⟨rfl,hbv1⟩;have hkv1:Below V3.heap.size V3 v1:=(by (repeat (first|assumption|exact Below.refl _ _|refine keep_drew ?_|refine keep_alloc ?_ _|refine keep_trans ?_ (by assumption))));obtain ⟨xv10,xv11,xv12,xv1l⟩:=c3_of (keepq hkv1 Q0.out);obtain ⟨yv10,yv11,yv12,yv1l⟩:=c3_of (keepq hkv1 Q1.out);obtain ⟨zv10,zv11,zv12,zv1l⟩:=c3_of (keepq hkv1 Q2.out);obtain ⟨gv10,gv11,gv12,gv1l⟩:=c3_of (keepq hkv1 Q3.out))|(go_at_call 72;(with_reducible refine (HKA.out _ (keep_trans HB3.out (by (repeat (first|assumption|exact Below.refl _ _|refine keep_drew ?_|refine keep_alloc ?_ _|refine keep_trans ?_ (by assumption)))))).mono ?_);rintro _ v2 ⟨aA,nA,cA,rfl,sA,hbv2⟩;have hkv2:Below V3.heap.size V3 v2:=(by (repeat (first|assumption|exact Below.refl _ _|refine keep_drew ?_|refine keep_alloc ?_ _|refine keep_trans ?_ (by assumption))));obtain ⟨xv20,xv21,xv22,xv2l⟩:=c3_of (keepq hkv2 Q0.out);obtain ⟨yv20,yv21,yv22,yv2l⟩:=c3_of (keepq hkv2 Q1.out);obtain ⟨zv20,zv21,zv22,zv2l⟩:=c3_of (keepq hkv2 Q2.out);obtain ⟨gv20,gv21,gv22,gv2l⟩:=c3_of (keepq hkv2 Q3.out))|(go_at_call 72;(with_reducible refine (HKB.out _ (keep_trans HB3.out (by (repeat (first|assumption|exact Below.refl _ _|refine keep_drew ?_|refine keep_alloc ?_ _|refine keep_trans ?_ (by assumption)))))).mono ?_);rintro _ v3 ⟨aB,nB,cB,rfl,sB,hbv3⟩;have hkv3:Below V3.heap.size V3 v3:=(by (repeat (first|assumption|exact Below.refl _ _|refine keep_drew ?_|refine keep_alloc ?_ _|refine keep_trans ?_ (by assumption))));obtain ⟨xv30,xv31,xv32,xv3l⟩:=c3_of (keepq hkv3 Q0.out);obtain ⟨yv30,yv31,yv32,yv3l⟩:=c3_of (keepq hkv3 Q1.out);obtain ⟨zv30,zv31,zv32,zv3l⟩:=c3_of (keepq hkv3 Q2.out);obtain ⟨gv30,gv31,gv32,gv3l⟩:=c3_of (keepq hkv3 Q3.out))|(go_at_call 72;(with_reducible refine (HKP.out _ _ _ (HI3.out.mono (by (repeat (first|assumption|exact Below.refl _ _|refine keep_drew ?_|refine keep_alloc ?_ _|refine keep_trans ?_ (by assumption))))) hc4).mono ?_);rintro _ v4 ⟨aP,nP,cP,rfl,sP,hbv4⟩;have hkv4:Below V3.heap.size V3 v4:=(by (repeat (first|assumption|exact Below.refl _ _|refine keep_drew ?_|refine keep_alloc ?_ _|refine keep_trans ?_ (by assumption))));obtain ⟨xv40,xv41,xv42,xv4l⟩:=c3_of (keepq hkv4 Q0.out);obtain ⟨yv40,yv41,yv42,yv4l⟩:=c3_of (keepq hkv4 Q1.out);obtain ⟨zv40,zv41,zv42,zv4l⟩:=c3_of (keepq hkv4 Q2.out);obtain ⟨gv40,gv41,gv42,gv4l⟩:=c3_of (keepq hkv4 Q3.out))|fail)
   have hB4:Below V3.heap.size V3 v4:=by (repeat (first|assumption|exact Below.refl _ _|refine keep_drew ?_|refine keep_alloc ?_ _|refine keep_trans ?_ (by assumption)))
   have sA4:SC v4 aA nA lA:=sA.mono (keep_trans hbv3 hbv4)
   have sB4:SC v4 aB nB lB:=sB.mono hbv4
   have HHA:=Lib.hid (fun W (hb:Below v4.heap.size v4 W)=>lhas_c aA nA cA lA W (sA4.mono hb))
   have HHB:=Lib.hid (fun W (hb:Below v4.heap.size v4 W)=>lhas_c aB nB cB lB W (sB4.mono hb))
   have HHP:=Lib.hid (fun W (hb:Below v4.heap.size v4 W)=>lhas_c aP nP cP lP W (sP.mono hb))
   rw[EA.out] at HHA
   rw[EB.out] at HHB
   rw[EP.out] at HHP
   have R0:=Lib.hid (keepq hB4 Q0.out)
   have R1:=Lib.hid (keepq hB4 Q1.out)
   have R2:=Lib.hid (keepq hB4 Q2.out)
   have R3:=Lib.hid (keepq hB4 Q3.out)
   have HB4:=Lib.hid (keep_trans HB3.out hB4)
   have HI4:=Lib.hid (HI3.out.mono hB4)
   clear x0 x1 x2 xl y0 y1 y2 yl z0 z1 z2 zl g0 g1 g2 gl
   clear xv10 xv11 xv12 xv1l yv10 yv11 yv12 yv1l zv10 zv11 zv12 zv1l gv10 gv11 gv12 gv1l xv20 xv21 xv22 xv2l yv20 yv21 yv22 yv2l zv20 zv21 zv22 zv2l gv20 gv21 gv22 gv2l xv30 xv31 xv32 xv3l yv30 yv31 yv32 yv3l zv30 zv31 zv32 zv3l gv30 gv31 gv32 gv3l xv40 xv41 xv42 xv4l yv40 yv41 yv42 yv4l zv40 zv41 zv42 zv4l gv40 gv41 gv42 gv4l hkv1 hbv1 hkv2 hbv2 hkv3 hbv3 hkv4 hbv4 hB4 sA sB sP sA4 sB4
   obtain ⟨x0,x1,x2,xl⟩:=c3_of R0.out
   obtain ⟨y0,y1,y2,yl⟩:=c3_of R1.out
   obtain ⟨z0,z1,z2,zl⟩:=c3_of R2.out
   obtain ⟨g0,g1,g2,gl⟩:=c3_of R3.out
   go_upto_region 18 with (first|(go_at_call 73;(with_reducible refine (HHA.out _ (by (repeat (first|assumption|exact Below.refl _ _|refine keep_drew ?_|refine keep_alloc ?_ _|refine keep_trans ?_ (by assumption))))).mono ?_);rintro _ u1 ⟨rfl,hbu1⟩;have hku1:Below v4.heap.size v4 u1:=(by (repeat (first|assumption|exact Below.refl _ _|refine keep_drew ?_|refine keep_alloc ?_ _|refine keep_trans ?_ (by assumption))));obtain ⟨xu10,xu11,xu12,xu1l⟩:=c3_of (keepq hku1 R0.out);obtain ⟨yu10,yu11,yu12,yu1l⟩:=c3_of (keepq hku1 R1.out);obtain ⟨zu10,zu11,zu12,zu1l⟩:=c3_of (keepq hku1 R2.out);obtain ⟨gu10,gu11,gu12,gu1l⟩:=c3_of (keepq hku1 R3.out))|(go_at_call 73;(with_reducible refine (HHB.out _ (by (repeat (first|assumption|exact Below.refl _ _|refine keep_drew ?_|refine keep_alloc ?_ _|refine keep_trans ?_ (by assumption))))).mono ?_);rintro _ u2 ⟨rfl,hbu2⟩;have hku2:Below v4.heap.size v4 u2:=(by (repeat (first|assumption|exact Below.refl _ _|refine keep_drew ?_|refine keep_alloc ?_ _|refine keep_trans ?_ (by assumption))));obtain ⟨xu20,xu21,xu22,xu2l⟩:=c3_of (keepq hku2 R0.out);obtain ⟨yu20,yu21,yu22,yu2l⟩:=c3_of (keepq hku2 R1.out);obtain ⟨zu20,zu21,zu22,zu2l⟩:=c3_of (keepq hku2 R2.out);obtain ⟨gu20,gu21,gu22,gu2l⟩:=c3_of (keepq hku2 R3.out))|(go_at_call 73;(with_reducible refine (HHP.out _ (by (repeat (first|assumption|exact Below.refl _ _|refine keep_drew ?_|refine keep_alloc ?_ _|refine keep_trans ?_ (by assumption))))).mono ?_);rintro _ u3 ⟨rfl,hbu3⟩;have hku3:Below v4.heap.size v4 u3:=(by (repeat (first|assumption|exact Below.refl _ _|refine keep_drew ?_|refine keep_alloc ?_ _|refine keep_trans ?_ (by assumption))));obtain ⟨xu30,xu31,xu32,xu3l⟩:=c3_of (keepq hku3 R0.out);obtain ⟨yu30,yu31,yu32,yu3l⟩:=c3_of (keepq hku3 R1.out);obtain ⟨zu30,zu31,zu32,zu3l⟩:=c3_of (keepq hku3 R2.out);obtain ⟨gu30,gu31,gu32,gu3l⟩:=c3_of (keepq hku3 R3.out))|(go_at_call 71;(with_reducible refine (HP2.out _ (keep_trans HB4.out (by (repeat (first|assumption|exact Below.refl _ _|refine keep_drew ?_|refine keep_alloc ?_ _|refine keep_trans ?_ (by assumption)))))).mono ?_);rintro _ u4 ⟨a9,c9,rfl,hi9,hc9,hbu4⟩)|fail)
   have hBu:Below v4.heap.size v4 u4:=by (repeat (first|assumption|exact Below.refl _ _|refine keep_drew ?_|refine keep_alloc ?_ _|refine keep_trans ?_ (by assumption)))
   have ksz:(u4.alloc (.cells #[.int .i64 (p:Int),.int .i64 (p:Int),.slice a9 pp c9] 24)).heap.size=u4.heap.size+1:=by simp only[World.size_alloc]
   have kB:Below u4.heap.size u4 (u4.alloc (.cells #[.int .i64 (p:Int),.int .i64 (p:Int),.slice a9 pp c9] 24)):=(Below.refl _ _).alloc (Nat.le_refl _) _
   have kq0:(u4.alloc (.cells #[.int .i64 (p:Int),.int .i64 (p:Int),.slice a9 pp c9] 24)).heap[u4.heap.size]?=some (.cells #[.int .i64 (p:Int),.int .i64 (p:Int),.slice a9 pp c9] 24 (0,0)):=by have h:=World.alloc_heap_new u4 (.cells #[.int .i64 (p:Int),.int .i64 (p:Int),.slice a9 pp c9] 24);exact h
   generalize (u4.alloc (.cells #[.int .i64 (p:Int),.int .i64 (p:Int),.slice a9 pp c9] 24))=V5 at ksz kB kq0 ⊢
   have hb45:=keep_trans hBu kB
   have S0:=Lib.hid (keepq hb45 R0.out)
   have S1:=Lib.hid (keepq hb45 R1.out)
   have S2:=Lib.hid (keepq hb45 R2.out)
   have S3:=Lib.hid (keepq hb45 R3.out)
   have S4:=Lib.hid kq0
   have HB5:=Lib.hid (keep_trans HB4.out hb45)
   have HI5:=Lib.hid (HI4.out.mono hb45)
   have HJ5:=Lib.hid (hi9.mono kB)
   clear x0 x1 x2 xl y0 y1 y2 yl z0 z1 z2 zl g0 g1 g2 gl ksz kq0 kB hi9 hb45 hBu hbu4
   clear xu10 xu11 xu12 xu1l yu10 yu11 yu12 yu1l zu10 zu11 zu12 zu1l gu10 gu11 gu12 gu1l xu30 xu31 xu32 xu3l yu30 yu31 yu32 yu3l zu30 zu31 zu32 zu3l gu30 gu31 gu32 gu3l hku1 hbu1 hku3 hbu3
   obtain ⟨x0,x1,x2,xl⟩:=c3_of S0.out
   obtain ⟨y0,y1,y2,yl⟩:=c3_of S1.out
   obtain ⟨z0,z1,z2,zl⟩:=c3_of S2.out
   obtain ⟨g0,g1,g2,gl⟩:=c3_of S3.out
   obtain ⟨t0,t1,t2,tl⟩:=c3_of S4.out
   go_wp2_with (first|(go_at_call 45;(with_reducible refine (HO1.out _ (keep_trans HB5.out (by (repeat (first|assumption|exact Below.refl _ _|refine keep_drew ?_|refine keep_alloc ?_ _|refine keep_trans ?_ (by assumption)))))).mono ?_);rintro _ s1 ⟨rfl,hbs1⟩;have hks1:Below V5.heap.size V5 s1:=(by (repeat (first|assumption|exact Below.refl _ _|refine keep_drew ?_|refine keep_alloc ?_ _|refine keep_trans ?_ (by assumption))));obtain ⟨xs10,xs11,xs12,xs1l⟩:=c3_of (keepq hks1 S0.out);obtain ⟨ys10,ys11,ys12,ys1l⟩:=c3_of (keepq hks1 S1.out);obtain ⟨zs10,zs11,zs12,zs1l⟩:=c3_of (keepq hks1 S2.out);obtain ⟨gs10,gs11,gs12,gs1l⟩:=c3_of (keepq hks1 S3.out);obtain ⟨ts10,ts11,ts12,ts1l⟩:=c3_of (keepq hks1 S4.out))|(go_at_call 45;(with_reducible refine (HO2.out _ (keep_trans HB5.out (by (repeat (first|assumption|exact Below.refl _ _|refine keep_drew ?_|refine keep_alloc ?_ _|refine keep_trans ?_ (by assumption)))))).mono ?_);rintro _ s2 ⟨rfl,hbs2⟩;have hks2:Below V5.heap.size V5 s2:=(by (repeat (first|assumption|exact Below.refl _ _|refine keep_drew ?_|refine keep_alloc ?_ _|refine keep_trans ?_ (by assumption))));obtain ⟨xs20,xs21,xs22,xs2l⟩:=c3_of (keepq hks2 S0.out);obtain ⟨ys20,ys21,ys22,ys2l⟩:=c3_of (keepq hks2 S1.out);obtain ⟨zs20,zs21,zs22,zs2l⟩:=c3_of (keepq hks2 S2.out);obtain ⟨gs20,gs21,gs22,gs2l⟩:=c3_of (keepq hks2 S3.out);obtain ⟨ts20,ts21,ts22,ts2l⟩:=c3_of (keepq hks2 S4.out))|(go_at_call 45;(with_reducible refine (HO3.out _ _ _ _ _ (HI5.out.mono (by (repeat (first|assumption|exact Below.refl _ _|refine keep_drew ?_|refine keep_alloc ?_ _|refine keep_trans ?_ (by assumption))))) (HJ5.out.mono (by (repeat (first|assumption|exact Below.refl _ _|refine keep_drew ?_|refine keep_alloc ?_ _|refine keep_trans ?_ (by assumption)))))).mono ?_);rintro _ s3 ⟨rfl,hbs3⟩)|(go_at_call 20;refine (awake4_c _).mono ?_;rintro _ wz ⟨rfl,hbz⟩)|fail)
   refine bodyPost_ret (v := .bool true) ?_ rfl ⟨rfl,keep_trans HB5.out (show Below V5.heap.size V5 wz by (repeat (first|assumption|exact Below.refl _ _|refine keep_drew ?_|refine keep_alloc ?_ _|refine keep_trans ?_ (by assumption))))⟩
   simp[results,Tryz.f13,go_sem]
  ·omega
theorem lprod_sff (N M K:Nat) (a:Option Addr) (n c:Nat) (a2:Option Addr) (n2 c2:Nat) (a3:Option Addr) (n3 c3:Nat) (w:World) (h0:¬16<n) (h1:¬16<n2) (h2:¬16<n3) (p pp:Nat) (hp:(N:Int)*(M:Int)=(p:Int)) (hp16:p≤16) (X:List Int) (lA lB lP:List ByteArray) (kB:Bool) (eA:lA.any isGr=false) (eB:lB.any isGr=kB) (eP:lP.any isGr=(false&&kB)) (Y:List Int) (o2:Bool) (hKN:((K:Int) != (N:Int))=false)
  (HA0:∀W,Below w.heap.size w W→Calls Tryz.prog 22 #[.agg #[.int .i64 (N:Int),.int .i64 (N:Int),.slice a n c]] W fun e w'=>e = .returned (.int .i64 0)∧Below W.heap.size W w')
  (HA1:∀W,Below w.heap.size w W→Calls Tryz.prog 22 #[.agg #[.int .i64 (M:Int),.int .i64 (M:Int),.slice a2 n2 c2]] W fun e w'=>e = .returned (.int .i64 0)∧Below W.heap.size W w')
  (HA2:∀W,Below w.heap.size w W→Calls Tryz.prog 22 #[.agg #[.int .i64 (K:Int),.int .i64 (K:Int),.slice a3 n3 c3]] W fun e w'=>e = .returned (.int .i64 0)∧Below W.heap.size W w')
  (HP:∀W,Below w.heap.size w W→Calls Tryz.prog 71 #[.agg #[.int .i64 (N:Int),.int .i64 (N:Int),.slice a n c],.agg #[.int .i64 (M:Int),.int .i64 (M:Int),.slice a2 n2 c2]] W fun e w'=>∃a4 c4,e = .returned (.tuple #[.agg #[.int .i64 (p:Int),.int .i64 (p:Int),.slice a4 pp c4],.int .i64 0])∧IC w' a4 pp X∧pp≤c4∧Below W.heap.size W w')
  (HPC:∀W a4 c4,IC W a4 pp X→Calls Tryz.prog 22 #[.agg #[.int .i64 (p:Int),.int .i64 (p:Int),.slice a4 pp c4]] W fun e w'=>e = .returned (.int .i64 0)∧Below W.heap.size W w')
  (HKA:∀W,Below w.heap.size w W→Calls Tryz.prog 72 #[.agg #[.int .i64 (N:Int),.int .i64 (N:Int),.slice a n c]] W fun e w'=>∃a5 k5 c5,e = .returned (.tuple #[.slice a5 k5 c5,.int .i64 0])∧SC w' a5 k5 lA∧Below W.heap.size W w')
  (HKB:∀W,Below w.heap.size w W→Calls Tryz.prog 72 #[.agg #[.int .i64 (M:Int),.int .i64 (M:Int),.slice a2 n2 c2]] W fun e w'=>∃a5 k5 c5,e = .returned (.tuple #[.slice a5 k5 c5,.int .i64 0])∧SC w' a5 k5 lB∧Below W.heap.size W w')
  (HKP:∀W a4 c4,IC W a4 pp X→pp≤c4→Calls Tryz.prog 72 #[.agg #[.int .i64 (p:Int),.int .i64 (p:Int),.slice a4 pp c4]] W fun e w'=>∃a5 k5 c5,e = .returned (.tuple #[.slice a5 k5 c5,.int .i64 0])∧SC w' a5 k5 lP∧Below W.heap.size W w')
  (HP2:∀W,Below w.heap.size w W→Calls Tryz.prog 71 #[.agg #[.int .i64 (K:Int),.int .i64 (K:Int),.slice a3 n3 c3],.agg #[.int .i64 (M:Int),.int .i64 (M:Int),.slice a2 n2 c2]] W fun e w'=>∃a4 c4,e = .returned (.tuple #[.agg #[.int .i64 (p:Int),.int .i64 (p:Int),.slice a4 pp c4],.int .i64 0])∧IC w' a4 pp Y∧pp≤c4∧Below W.heap.size W w')
  (HO1:∀W,Below w.heap.size w W→Calls Tryz.prog 45 #[.agg #[.int .i64 (N:Int),.int .i64 (N:Int),.slice a n c],.agg #[.int .i64 (K:Int),.int .i64 (K:Int),.slice a3 n3 c3]] W fun e w'=>e = .returned (.tuple #[.bool false,.int .i64 0])∧Below W.heap.size W w')
  (HO2:∀W,Below w.heap.size w W→Calls Tryz.prog 45 #[.agg #[.int .i64 (M:Int),.int .i64 (M:Int),.slice a2 n2 c2],.agg #[.int .i64 (M:Int),.int .i64 (M:Int),.slice a2 n2 c2]] W fun e w'=>e = .returned (.tuple #[.bool o2,.int .i64 0])∧Below W.heap.size W w')
  (HO3:∀W a4 c4 a9 c9,IC W a4 pp X→IC W a9 pp Y→Calls Tryz.prog 45 #[.agg #[.int .i64 (p:Int),.int .i64 (p:Int),.slice a4 pp c4],.agg #[.int .i64 (p:Int),.int .i64 (p:Int),.slice a9 pp c9]] W fun e w'=>e = .returned (.tuple #[.bool (false&&o2),.int .i64 0])∧Below W.heap.size W w')
  : Calls Tryz.prog 13 #[.agg #[.int .i64 (N:Int),.int .i64 (N:Int),.slice a n c],.agg #[.int .i64 (M:Int),.int .i64 (M:Int),.slice a2 n2 c2],.agg #[.int .i64 (K:Int),.int .i64 (K:Int),.slice a3 n3 c3]] w fun e w'=>e = .returned (.bool true)∧Below w.heap.size w w':=by
 have hg0:decide ((16:Int)<(n:Int))=false:=decide_eq_false (by omega)
 have hg1:decide ((16:Int)<(n2:Int))=false:=decide_eq_false (by omega)
 have hg2:decide ((16:Int)<(n3:Int))=false:=decide_eq_false (by omega)
 have HA0:=Lib.hid HA0
 have HA1:=Lib.hid HA1
 have HA2:=Lib.hid HA2
 have HP:=Lib.hid HP
 have HPC:=Lib.hid HPC
 have HKA:=Lib.hid HKA
 have HKB:=Lib.hid HKB
 have HKP:=Lib.hid HKP
 have HP2:=Lib.hid HP2
 have HO1:=Lib.hid HO1
 have HO2:=Lib.hid HO2
 have HO3:=Lib.hid HO3
 have EA:=Lib.hid eA
 have EB:=Lib.hid eB
 have EP:=Lib.hid eP
 have hpn:((p:Int) != (p:Int))=false:=by simp
 have hkk:(kB != kB)=false:=by cases kB <;> rfl
 clear eA eB eP
 have hoo:(o2==o2)=true:=by cases o2 <;> rfl
 go_enter Tryz.func13,Tryz.ntmps13
 go_upto_region 1 with fail
 have fsz:(((w.alloc (.cells #[.int .i64 (N:Int),.int .i64 (N:Int),.slice a n c] 24)).alloc (.cells #[.int .i64 (M:Int),.int .i64 (M:Int),.slice a2 n2 c2] 24)).alloc (.cells #[.int .i64 (K:Int),.int .i64 (K:Int),.slice a3 n3 c3] 24)).heap.size=w.heap.size+3:=by simp only[World.size_alloc] <;> omega
 have fB:Below w.heap.size w (((w.alloc (.cells #[.int .i64 (N:Int),.int .i64 (N:Int),.slice a n c] 24)).alloc (.cells #[.int .i64 (M:Int),.int .i64 (M:Int),.slice a2 n2 c2] 24)).alloc (.cells #[.int .i64 (K:Int),.int .i64 (K:Int),.slice a3 n3 c3] 24)):=(((Below.refl _ _).alloc (Nat.le_refl _) _).alloc (by simp only[World.size_alloc];omega) _).alloc (by simp only[World.size_alloc];omega) _
 have fq0:(((w.alloc (.cells #[.int .i64 (N:Int),.int .i64 (N:Int),.slice a n c] 24)).alloc (.cells #[.int .i64 (M:Int),.int .i64 (M:Int),.slice a2 n2 c2] 24)).alloc (.cells #[.int .i64 (K:Int),.int .i64 (K:Int),.slice a3 n3 c3] 24)).heap[w.heap.size]?=some (.cells #[.int .i64 (N:Int),.int .i64 (N:Int),.slice a n c] 24 (0,0)):=by have h:=World.alloc_heap_new w (.cells #[.int .i64 (N:Int),.int .i64 (N:Int),.slice a n c] 24);exact (Below.heap_alloc _ _ _ (by simp only[World.size_alloc];omega)).trans ((Below.heap_alloc _ _ _ (by simp only[World.size_alloc];omega)).trans (h))
 have fq1:(((w.alloc (.cells #[.int .i64 (N:Int),.int .i64 (N:Int),.slice a n c] 24)).alloc (.cells #[.int .i64 (M:Int),.int .i64 (M:Int),.slice a2 n2 c2] 24)).alloc (.cells #[.int .i64 (K:Int),.int .i64 (K:Int),.slice a3 n3 c3] 24)).heap[w.heap.size+1]?=some (.cells #[.int .i64 (M:Int),.int .i64 (M:Int),.slice a2 n2 c2] 24 (0,0)):=by have h:=World.alloc_heap_new (w.alloc (.cells #[.int .i64 (N:Int),.int .i64 (N:Int),.slice a n c] 24)) (.cells #[.int .i64 (M:Int),.int .i64 (M:Int),.slice a2 n2 c2] 24);simp only[World.size_alloc] at h;exact (Below.heap_alloc _ _ _ (by simp only[World.size_alloc];omega)).trans (h)
 have fq2:(((w.alloc (.cells #[.int .i64 (N:Int),.int .i64 (N:Int),.slice a n c] 24)).alloc (.cells #[.int .i64 (M:Int),.int .i64 (M:Int),.slice a2 n2 c2] 24)).alloc (.cells #[.int .i64 (K:Int),.int .i64 (K:Int),.slice a3 n3 c3] 24)).heap[w.heap.size+1+1]?=some (.cells #[.int .i64 (K:Int),.int .i64 (K:Int),.slice a3 n3 c3] 24 (0,0)):=by have h:=World.alloc_heap_new ((w.alloc (.cells #[.int .i64 (N:Int),.int .i64 (N:Int),.slice a n c] 24)).alloc (.cells #[.int .i64 (M:Int),.int .i64 (M:Int),.slice a2 n2 c2] 24)) (.cells #[.int .i64 (K:Int),.int .i64 (K:Int),.slice a3 n3 c3] 24);simp only[World.size_alloc] at h;exact h
 generalize (((w.alloc (.cells #[.int .i64 (N:Int),.int .i64 (N:Int),.slice a n c] 24)).alloc (.cells #[.int .i64 (M:Int),.int .i64 (M:Int),.slice a2 n2 c2] 24)).alloc (.cells #[.int .i64 (K:Int),.int .i64 (K:Int),.slice a3 n3 c3] 24))=W0 at fsz fB fq0 fq1 fq2 ⊢
 have Q0:=Lib.hid fq0
 have Q1:=Lib.hid fq1
 have Q2:=Lib.hid fq2
 have FB:=Lib.hid fB
 obtain ⟨x0,x1,x2,xl⟩:=c3_of fq0
 obtain ⟨y0,y1,y2,yl⟩:=c3_of fq1
 obtain ⟨z0,z1,z2,zl⟩:=c3_of fq2
 clear fq0 fq1 fq2 fsz fB
 go_upto_region 2 with fail
 have hq9:=World.alloc_heap_new W0 (.cells #[.int .i64 (N:Int),.int .i64 (N:Int),.slice a n c,.int .i64 (M:Int),.int .i64 (M:Int),.slice a2 n2 c2,.int .i64 (K:Int),.int .i64 (K:Int),.slice a3 n3 c3] 24)
 have hb9:Below W0.heap.size W0 (W0.alloc (.cells #[.int .i64 (N:Int),.int .i64 (N:Int),.slice a n c,.int .i64 (M:Int),.int .i64 (M:Int),.slice a2 n2 c2,.int .i64 (K:Int),.int .i64 (K:Int),.slice a3 n3 c3] 24)):=keep_alloc (Below.refl _ _) _
 generalize (W0.alloc (.cells #[.int .i64 (N:Int),.int .i64 (N:Int),.slice a n c,.int .i64 (M:Int),.int .i64 (M:Int),.slice a2 n2 c2,.int .i64 (K:Int),.int .i64 (K:Int),.slice a3 n3 c3] 24))=W1 at hq9 hb9 ⊢
 have HQ9:=Lib.hid hq9
 have HB1:=Lib.hid hb9
 clear x0 x1 x2 xl y0 y1 y2 yl z0 z1 z2 zl hq9 hb9
 go_loopw [8,30] (fun _ s30 wr=>∃k:Nat,k≤3∧s30 = .int .i64 (k:Int)∧Hid (Below W1.heap.size W1 wr)) (fun _ s30 _=>3 - (intOf s30).toNat)
 case atStart=>exact ⟨0,by omega,rfl,Below.refl _ _⟩
 case round =>
  obtain ⟨k,hk,rfl,hbr⟩:=hrel
  have hq:=keepq hbr.out HQ9.out
  have hqz:=q_lt hq
  by_cases e0:k=0
  ·subst e0
   have g0:=q_cell hq 0
   have g1:=q_cell hq 1
   have g2:=q_cell hq 2
   go_upto_region 4 with fail
   have vsz:(wr.alloc (.cells #[.int .i64 (N:Int),.int .i64 (N:Int),.slice a n c] 24)).heap.size=wr.heap.size+1:=by simp only[World.size_alloc]
   have vB:Below wr.heap.size wr (wr.alloc (.cells #[.int .i64 (N:Int),.int .i64 (N:Int),.slice a n c] 24)):=(Below.refl _ _).alloc (Nat.le_refl _) _
   have vq0:(wr.alloc (.cells #[.int .i64 (N:Int),.int .i64 (N:Int),.slice a n c] 24)).heap[wr.heap.size]?=some (.cells #[.int .i64 (N:Int),.int .i64 (N:Int),.slice a n c] 24 (0,0)):=by have h:=World.alloc_heap_new wr (.cells #[.int .i64 (N:Int),.int .i64 (N:Int),.slice a n c] 24);exact h
   generalize (wr.alloc (.cells #[.int .i64 (N:Int),.int .i64 (N:Int),.slice a n c] 24))=V at vsz vB vq0 ⊢
   have QV:=Lib.hid vq0
   have VB:=Lib.hid vB
   obtain ⟨x0,x1,x2,xl⟩:=c3_of vq0
   clear vq0 vB vsz g0 g1 g2
   go_wp2_with (first|(go_at_call 19;(with_reducible refine (lgreat_c (N:Int) (N:Int) a n c 16 _).mono ?_);rintro _ w1 ⟨rfl,hbw1⟩;have hkw1:Below V.heap.size V w1:=(by (repeat (first|assumption|exact Below.refl _ _|refine keep_drew ?_|refine keep_alloc ?_ _|refine keep_trans ?_ (by assumption))));obtain ⟨xw10,xw11,xw12,xw1l⟩:=c3_of (keepq hkw1 QV.out))|(go_at_call 22;(with_reducible refine (HA0.out _ (keep_trans (keep_trans (keep_trans (keep_trans FB.out HB1.out) hbr.out) VB.out) (by (repeat (first|assumption|exact Below.refl _ _|refine keep_drew ?_|refine keep_alloc ?_ _|refine keep_trans ?_ (by assumption)))))).mono ?_);rintro _ w2 ⟨rfl,hbw2⟩;have hkw2:Below V.heap.size V w2:=(by (repeat (first|assumption|exact Below.refl _ _|refine keep_drew ?_|refine keep_alloc ?_ _|refine keep_trans ?_ (by assumption))));obtain ⟨xw20,xw21,xw22,xw2l⟩:=c3_of (keepq hkw2 QV.out))|fail)
   go_roundw
   case rel=>exact ⟨1,by omega,by go_num,keep_trans hbr.out (keep_trans VB.out (show Below V.heap.size V w2 by (repeat (first|assumption|exact Below.refl _ _|refine keep_drew ?_|refine keep_alloc ?_ _|refine keep_trans ?_ (by assumption)))))⟩
   case measure=>simp[intOf]
  by_cases e1:k=1
  ·subst e1
   have g0:=q_cell hq 3
   have g1:=q_cell hq 4
   have g2:=q_cell hq 5
   go_upto_region 4 with fail
   have vsz:(wr.alloc (.cells #[.int .i64 (M:Int),.int .i64 (M:Int),.slice a2 n2 c2] 24)).heap.size=wr.heap.size+1:=by simp only[World.size_alloc]
   have vB:Below wr.heap.size wr (wr.alloc (.cells #[.int .i64 (M:Int),.int .i64 (M:Int),.slice a2 n2 c2] 24)):=(Below.refl _ _).alloc (Nat.le_refl _) _
   have vq0:(wr.alloc (.cells #[.int .i64 (M:Int),.int .i64 (M:Int),.slice a2 n2 c2] 24)).heap[wr.heap.size]?=some (.cells #[.int .i64 (M:Int),.int .i64 (M:Int),.slice a2 n2 c2] 24 (0,0)):=by have h:=World.alloc_heap_new wr (.cells #[.int .i64 (M:Int),.int .i64 (M:Int),.slice a2 n2 c2] 24);exact h
   generalize (wr.alloc (.cells #[.int .i64 (M:Int),.int .i64 (M:Int),.slice a2 n2 c2] 24))=V at vsz vB vq0 ⊢
   have QV:=Lib.hid vq0
   have VB:=Lib.hid vB
   obtain ⟨x0,x1,x2,xl⟩:=c3_of vq0
   clear vq0 vB vsz g0 g1 g2
   go_wp2_with (first|(go_at_call 19;(with_reducible refine (lgreat_c (M:Int) (M:Int) a2 n2 c2 16 _).mono ?_);rintro _ w1 ⟨rfl,hbw1⟩;have hkw1:Below V.heap.size V w1:=(by (repeat (first|assumption|exact Below.refl _ _|refine keep_drew ?_|refine keep_alloc ?_ _|refine keep_trans ?_ (by assumption))));obtain ⟨xw10,xw11,xw12,xw1l⟩:=c3_of (keepq hkw1 QV.out))|(go_at_call 22;(with_reducible refine (HA1.out _ (keep_trans (keep_trans (keep_trans (keep_trans FB.out HB1.out) hbr.out) VB.out) (by (repeat (first|assumption|exact Below.refl _ _|refine keep_drew ?_|refine keep_alloc ?_ _|refine keep_trans ?_ (by assumption)))))).mono ?_);rintro _ w2 ⟨rfl,hbw2⟩;have hkw2:Below V.heap.size V w2:=(by (repeat (first|assumption|exact Below.refl _ _|refine keep_drew ?_|refine keep_alloc ?_ _|refine keep_trans ?_ (by assumption))));obtain ⟨xw20,xw21,xw22,xw2l⟩:=c3_of (keepq hkw2 QV.out))|fail)
   go_roundw
   case rel=>exact ⟨2,by omega,by go_num,keep_trans hbr.out (keep_trans VB.out (show Below V.heap.size V w2 by (repeat (first|assumption|exact Below.refl _ _|refine keep_drew ?_|refine keep_alloc ?_ _|refine keep_trans ?_ (by assumption)))))⟩
   case measure=>simp[intOf]
  by_cases e2:k=2
  ·subst e2
   have g0:=q_cell hq 6
   have g1:=q_cell hq 7
   have g2:=q_cell hq 8
   go_upto_region 4 with fail
   have vsz:(wr.alloc (.cells #[.int .i64 (K:Int),.int .i64 (K:Int),.slice a3 n3 c3] 24)).heap.size=wr.heap.size+1:=by simp only[World.size_alloc]
   have vB:Below wr.heap.size wr (wr.alloc (.cells #[.int .i64 (K:Int),.int .i64 (K:Int),.slice a3 n3 c3] 24)):=(Below.refl _ _).alloc (Nat.le_refl _) _
   have vq0:(wr.alloc (.cells #[.int .i64 (K:Int),.int .i64 (K:Int),.slice a3 n3 c3] 24)).heap[wr.heap.size]?=some (.cells #[.int .i64 (K:Int),.int .i64 (K:Int),.slice a3 n3 c3] 24 (0,0)):=by have h:=World.alloc_heap_new wr (.cells #[.int .i64 (K:Int),.int .i64 (K:Int),.slice a3 n3 c3] 24);exact h
   generalize (wr.alloc (.cells #[.int .i64 (K:Int),.int .i64 (K:Int),.slice a3 n3 c3] 24))=V at vsz vB vq0 ⊢
   have QV:=Lib.hid vq0
   have VB:=Lib.hid vB
   obtain ⟨x0,x1,x2,xl⟩:=c3_of vq0
   clear vq0 vB vsz g0 g1 g2
   go_wp2_with (first|(go_at_call 19;(with_reducible refine (lgreat_c (K:Int) (K:Int) a3 n3 c3 16 _).mono ?_);rintro _ w1 ⟨rfl,hbw1⟩;have hkw1:Below V.heap.size V w1:=(by (repeat (first|assumption|exact Below.refl _ _|refine keep_drew ?_|refine keep_alloc ?_ _|refine keep_trans ?_ (by assumption))));obtain ⟨xw10,xw11,xw12,xw1l⟩:=c3_of (keepq hkw1 QV.out))|(go_at_call 22;(with_reducible refine (HA2.out _ (keep_trans (keep_trans (keep_trans (keep_trans FB.out HB1.out) hbr.out) VB.out) (by (repeat (first|assumption|exact Below.refl _ _|refine keep_drew ?_|refine keep_alloc ?_ _|refine keep_trans ?_ (by assumption)))))).mono ?_);rintro _ w2 ⟨rfl,hbw2⟩;have hkw2:Below V.heap.size V w2:=(by (repeat (first|assumption|exact Below.refl _ _|refine keep_drew ?_|refine keep_alloc ?_ _|refine keep_trans ?_ (by assumption))));obtain ⟨xw20,xw21,xw22,xw2l⟩:=c3_of (keepq hkw2 QV.out))|fail)
   go_roundw
   case rel=>exact ⟨3,by omega,by go_num,keep_trans hbr.out (keep_trans VB.out (show Below V.heap.size V w2 by (repeat (first|assumption|exact Below.refl _ _|refine keep_drew ?_|refine keep_alloc ?_ _|refine keep_trans ?_ (by assumption)))))⟩
   case measure=>simp[intOf]
  by_cases e3:k=3
  ·subst e3
   have HBR:=Lib.hid (keep_trans (keep_trans FB.out HB1.out) hbr.out)
   have hb0r:=keep_trans HB1.out hbr.out
   have P0:=Lib.hid (keepq hb0r Q0.out)
   have P1:=Lib.hid (keepq hb0r Q1.out)
   have P2:=Lib.hid (keepq hb0r Q2.out)
   clear hq hqz hb0r hbr
   obtain ⟨x0,x1,x2,xl⟩:=c3_of P0.out
   obtain ⟨y0,y1,y2,yl⟩:=c3_of P1.out
   obtain ⟨z0,z1,z2,zl⟩:=c3_of P2.out
   go_upto_region 8 with (first|(go_at_call 71;(with_reducible refine (HP.out _ HBR.out).mono ?_);rintro _ w2 ⟨a4,c4,rfl,hi4,hc4,hb2⟩)|fail)
   have gsz:(w2.alloc (.cells #[.int .i64 (p:Int),.int .i64 (p:Int),.slice a4 pp c4] 24)).heap.size=w2.heap.size+1:=by simp only[World.size_alloc]
   have gB:Below w2.heap.size w2 (w2.alloc (.cells #[.int .i64 (p:Int),.int .i64 (p:Int),.slice a4 pp c4] 24)):=(Below.refl _ _).alloc (Nat.le_refl _) _
   have gq0:(w2.alloc (.cells #[.int .i64 (p:Int),.int .i64 (p:Int),.slice a4 pp c4] 24)).heap[w2.heap.size]?=some (.cells #[.int .i64 (p:Int),.int .i64 (p:Int),.slice a4 pp c4] 24 (0,0)):=by have h:=World.alloc_heap_new w2 (.cells #[.int .i64 (p:Int),.int .i64 (p:Int),.slice a4 pp c4] 24);exact h
   generalize (w2.alloc (.cells #[.int .i64 (p:Int),.int .i64 (p:Int),.slice a4 pp c4] 24))=V3 at gsz gB gq0 ⊢
   have hb23:=keep_trans hb2 gB
   have Q3:=Lib.hid gq0
   have Q0:=Lib.hid (keepq hb23 P0.out)
   have Q1:=Lib.hid (keepq hb23 P1.out)
   have Q2:=Lib.hid (keepq hb23 P2.out)
   have HB3:=Lib.hid (keep_trans HBR.out hb23)
   have HI3:=Lib.hid (hi4.mono gB)
   clear gsz gq0 gB hb2 hi4 hb23 x0 x1 x2 xl y0 y1 y2 yl z0 z1 z2 zl
   obtain ⟨x0,x1,x2,xl⟩:=c3_of Q0.out
   obtain ⟨y0,y1,y2,yl⟩:=c3_of Q1.out
   obtain ⟨z0,z1,z2,zl⟩:=c3_of Q2.out
   obtain ⟨g0,g1,g2,gl⟩:=c3_of Q3.out
   go_upto_region 13 with (first|(go_at_call 22;(with_reducible refine (HPC.out _ _ _ HI3.out).mono ?_);rintro _ v1 ⟨rfl,hbv1⟩;have hkv1:Below V3.heap.size V3 v1:=(by (repeat (first|assumption|exact Below.refl _ _|refine keep_drew ?_|refine keep_alloc ?_ _|refine keep_trans ?_ (by assumption))));obtain ⟨xv10,xv11,xv12,xv1l⟩:=c3_of (keepq hkv1 Q0.out);obtain ⟨yv10,yv11,yv12,yv1l⟩:=c3_of (keepq hkv1 Q1.out);obtain ⟨zv10,zv11,zv12,zv1l⟩:=c3_of (keepq hkv1 Q2.out);obtain ⟨gv10,gv11,gv12,gv1l⟩:=c3_of (keepq hkv1 Q3.out))|(go_at_call 72;(with_reducible refine (HKA.out _ (keep_trans HB3.out (by (repeat (first|assumption|exact Below.refl _ _|refine keep_drew ?_|refine keep_alloc ?_ _|refine keep_trans ?_ (by assumption)))))).mono ?_);rintro _ v2 ⟨aA,nA,cA,rfl,sA,hbv2⟩;have hkv2:Below V3.heap.size V3 v2:=(by (repeat (first|assumption|exact Below.refl _ _|refine keep_drew ?_|refine keep_alloc ?_ _|refine keep_trans ?_ (by assumption))));obtain ⟨xv20,xv21,xv22,xv2l⟩:=c3_of (keepq hkv2 Q0.out);obtain ⟨yv20,yv21,yv22,yv2l⟩:=c3_of (keepq hkv2 Q1.out);obtain ⟨zv20,zv21,zv22,zv2l⟩:=c3_of (keepq hkv2 Q2.out);obtain ⟨gv20,gv21,gv22,gv2l⟩:=c3_of (keepq hkv2 Q3.out))|(go_at_call 72;(with_reducible refine (HKB.out _ (keep_trans HB3.out (by (repeat (first|assumption|exact Below.refl _ _|refine keep_drew ?_|refine keep_alloc ?_ _|refine keep_trans ?_ (by assumption)))))).mono ?_);rintro _ v3 ⟨aB,nB,cB,rfl,sB,hbv3⟩;have hkv3:Below V3.heap.size V3 v3:=(by (repeat (first|assumption|exact Below.refl _ _|refine keep_drew ?_|refine keep_alloc ?_ _|refine keep_trans ?_ (by assumption))));obtain ⟨xv30,xv31,xv32,xv3l⟩:=c3_of (keepq hkv3 Q0.out);obtain ⟨yv30,yv31,yv32,yv3l⟩:=c3_of (keepq hkv3 Q1.out);obtain ⟨zv30,zv31,zv32,zv3l⟩:=c3_of (keepq hkv3 Q2.out);obtain ⟨gv30,gv31,gv32,gv3l⟩:=c3_of (keepq hkv3 Q3.out))|(go_at_call 72;(with_reducible refine (HKP.out _ _ _ (HI3.out.mono (by (repeat (first|assumption|exact Below.refl _ _|refine keep_drew ?_|refine keep_alloc ?_ _|refine keep_trans ?_ (by assumption))))) hc4).mono ?_);rintro _ v4 ⟨aP,nP,cP,rfl,sP,hbv4⟩;have hkv4:Below V3.heap.size V3 v4:=(by (repeat (first|assumption|exact Below.refl _ _|refine keep_drew ?_|refine keep_alloc ?_ _|refine keep_trans ?_ (by assumption))));obtain ⟨xv40,xv41,xv42,xv4l⟩:=c3_of (keepq hkv4 Q0.out);obtain ⟨yv40,yv41,yv42,yv4l⟩:=c3_of (keepq hkv4 Q1.out);obtain ⟨zv40,zv41,zv42,zv4l⟩:=c3_of (keepq hkv4 Q2.out);obtain ⟨gv40,gv41,gv42,gv4l⟩:=c3_of (keepq hkv4 Q3.out))|fail)
   have hB4:Below V3.heap.size V3 v4:=by (repeat (first|assumption|exact Below.refl _ _|refine keep_drew ?_|refine keep_alloc ?_ _|refine keep_trans ?_ (by assumption)))
   have sA4:SC v4 aA nA lA:=sA.mono (keep_trans hbv3 hbv4)
   have sB4:SC v4 aB nB lB:=sB.mono hbv4
   have HHA:=Lib.hid (fun W (hb:Below v4.heap.size v4 W)=>lhas_c aA nA cA lA W (sA4.mono hb))
   have HHB:=Lib.hid (fun W (hb:Below v4.heap.size v4 W)=>lhas_c aB nB cB lB W (sB4.mono hb))
   have HHP:=Lib.hid (fun W (hb:Below v4.heap.size v4 W)=>lhas_c aP nP cP lP W (sP.mono hb))
   rw[EA.out] at HHA
   rw[EB.out] at HHB
   rw[EP.out] at HHP
   have R0:=Lib.hid (keepq hB4 Q0.out)
   have R1:=Lib.hid (keepq hB4 Q1.out)
   have R2:=Lib.hid (keepq hB4 Q2.out)
   have R3:=Lib.hid (keepq hB4 Q3.out)
   have HB4:=Lib.hid (keep_trans HB3.out hB4)
   have HI4:=Lib.hid (HI3.out.mono hB4)
   clear x0 x1 x2 xl y0 y1 y2 yl z0 z1 z2 zl g0 g1 g2 gl
   clear xv10 xv11 xv12 xv1l yv10 yv11 yv12 yv1l zv10 zv11 zv12 zv1l gv10 gv11 gv12 gv1l xv20 xv21 xv22 xv2l yv20 yv21 yv22 yv2l zv20 zv21 zv22 zv2l gv20 gv21 gv22 gv2l xv30 xv31 xv32 xv3l yv30 yv31 yv32 yv3l zv30 zv31 zv32 zv3l gv30 gv31 gv32 gv3l xv40 xv41 xv42 xv4l yv40 yv41 yv42 yv4l zv40 zv41 zv42 zv4l gv40 gv41 gv42 gv4l hkv1 hbv1 hkv2 hbv2 hkv3 hbv3 hkv4 hbv4 hB4 sA sB sP sA4 sB4
   obtain ⟨x0,x1,x2,xl⟩:=c3_of R0.out
   obtain ⟨y0,y1,y2,yl⟩:=c3_of R1.out
   obtain ⟨z0,z1,z2,zl⟩:=c3_of R2.out
   obtain ⟨g0,g1,g2,gl⟩:=c3_of R3.out
   go_upto_region 18 with (first|(go_at_call 73;(with_reducible refine (HHA.out _ (by (repeat (first|assumption|exact Below.refl _ _|refine keep_drew ?_|refine keep_alloc ?_ _|refine keep_trans ?_ (by assumption))))).mono ?_);rintro _ u1 ⟨rfl,hbu1⟩;have hku1:Below v4.heap.size v4 u1:=(by (repeat (first|assumption|exact Below.refl _ _|refine keep_drew ?_|refine keep_alloc ?_ _|refine keep_trans ?_ (by assumption))));obtain ⟨xu10,xu11,xu12,xu1l⟩:=c3_of (keepq hku1 R0.out);obtain ⟨yu10,yu11,yu12,yu1l⟩:=c3_of (keepq hku1 R1.out);obtain ⟨zu10,zu11,zu12,zu1l⟩:=c3_of (keepq hku1 R2.out);obtain ⟨gu10,gu11,gu12,gu1l⟩:=c3_of (keepq hku1 R3.out))|(go_at_call 73;(with_reducible refine (HHB.out _ (by (repeat (first|assumption|exact Below.refl _ _|refine keep_drew ?_|refine keep_alloc ?_ _|refine keep_trans ?_ (by assumption))))).mono ?_);rintro _ u2 ⟨rfl,hbu2⟩;have hku2:Below v4.heap.size v4 u2:=(by (repeat (first|assumption|exact Below.refl _ _|refine keep_drew ?_|refine keep_alloc ?_ _|refine keep_trans ?_ (by assumption))));obtain ⟨xu20,xu21,xu22,xu2l⟩:=c3_of (keepq hku2 R0.out);obtain ⟨yu20,yu21,yu22,yu2l⟩:=c3_of (keepq hku2 R1.out);obtain ⟨zu20,zu21,zu22,zu2l⟩:=c3_of (keepq hku2 R2.out);obtain ⟨gu20,gu21,gu22,gu2l⟩:=c3_of (keepq hku2 R3.out))|(go_at_call 73;(with_reducible refine (HHP.out _ (by (repeat (first|assumption|exact Below.refl _ _|refine keep_drew ?_|refine keep_alloc ?_ _|refine keep_trans ?_ (by assumption))))).mono ?_);rintro _ u3 ⟨rfl,hbu3⟩;have hku3:Below v4.heap.size v4 u3:=(by (repeat (first|assumption|exact Below.refl _ _|refine keep_drew ?_|refine keep_alloc ?_ _|refine keep_trans ?_ (by assumption))));obtain ⟨xu30,xu31,xu32,xu3l⟩:=c3_of (keepq hku3 R0.out);obtain ⟨yu30,yu31,yu32,yu3l⟩:=c3_of (keepq hku3 R1.out);obtain ⟨zu30,zu31,zu32,zu3l⟩:=c3_of (keepq hku3 R2.out);obtain ⟨gu30,gu31,gu32,gu3l⟩:=c3_of (keepq hku3 R3.out))|(go_at_call 71;(with_reducible refine (HP2.out _ (keep_trans HB4.out (by (repeat (first|assumption|exact Below.refl _ _|refine keep_drew ?_|refine keep_alloc ?_ _|refine keep_trans ?_ (by assumption)))))).mono ?_);rintro _ u4 ⟨a9,c9,rfl,hi9,hc9,hbu4⟩)|fail)
   have hBu:Below v4.heap.size v4 u4:=by (repeat (first|assumption|exact Below.refl _ _|refine keep_drew ?_|refine keep_alloc ?_ _|refine keep_trans ?_ (by assumption)))
   have ksz:(u4.alloc (.cells #[.int .i64 (p:Int),.int .i64 (p:Int),.slice a9 pp c9] 24)).heap.size=u4.heap.size+1:=by simp only[World.size_alloc]
   have kB:Below u4.heap.size u4 (u4.alloc (.cells #[.int .i64 (p:Int),.int .i64 (p:Int),.slice a9 pp c9] 24)):=(Below.refl _ _).alloc (Nat.le_refl _) _
   have kq0:(u4.alloc (.cells #[.int .i64 (p:Int),.int .i64 (p:Int),.slice a9 pp c9] 24)).heap[u4.heap.size]?=some (.cells #[.int .i64 (p:Int),.int .i64 (p:Int),.slice a9 pp c9] 24 (0,0)):=by have h:=World.alloc_heap_new u4 (.cells #[.int .i64 (p:Int),.int .i64 (p:Int),.slice a9 pp c9] 24);exact h
   generalize (u4.alloc (.cells #[.int .i64 (p:Int),.int .i64 (p:Int),.slice a9 pp c9] 24))=V5 at ksz kB kq0 ⊢
   have hb45:=keep_trans hBu kB
   have S0:=Lib.hid (keepq hb45 R0.out)
   have S1:=Lib.hid (keepq hb45 R1.out)
   have S2:=Lib.hid (keepq hb45 R2.out)
   have S3:=Lib.hid (keepq hb45 R3.out)
   have S4:=Lib.hid kq0
   have HB5:=Lib.hid (keep_trans HB4.out hb45)
   have HI5:=Lib.hid (HI4.out.mono hb45)
   have HJ5:=Lib.hid (hi9.mono kB)
   clear x0 x1 x2 xl y0 y1 y2 yl z0 z1 z2 zl g0 g1 g2 gl ksz kq0 kB hi9 hb45 hBu hbu4
   clear xu10 xu11 xu12 xu1l yu10 yu11 yu12 yu1l zu10 zu11 zu12 zu1l gu10 gu11 gu12 gu1l xu30 xu31 xu32 xu3l yu30 yu31 yu32 yu3l zu30 zu31 zu32 zu3l gu30 gu31 gu32 gu3l hku1 hbu1 hku3 hbu3
   obtain ⟨x0,x1,x2,xl⟩:=c3_of S0.out
   obtain ⟨y0,y1,y2,yl⟩:=c3_of S1.out
   obtain ⟨z0,z1,z2,zl⟩:=c3_of S2.out
   obtain ⟨g0,g1,g2,gl⟩:=c3_of S3.out
   obtain ⟨t0,t1,t2,tl⟩:=c3_of S4.out
   go_wp2_with (first|(go_at_call 45;(with_reducible refine (HO1.out _ (keep_trans HB5.out (by (repeat (first|assumption|exact Below.refl _ _|refine keep_drew ?_|refine keep_alloc ?_ _|refine keep_trans ?_ (by assumption)))))).mono ?_);rintro _ s1 ⟨rfl,hbs1⟩;have hks1:Below V5.heap.size V5 s1:=(by (repeat (first|assumption|exact Below.refl _ _|refine keep_drew ?_|refine keep_alloc ?_ _|refine keep_trans ?_ (by assumption))));obtain ⟨xs10,xs11,xs12,xs1l⟩:=c3_of (keepq hks1 S0.out);obtain ⟨ys10,ys11,ys12,ys1l⟩:=c3_of (keepq hks1 S1.out);obtain ⟨zs10,zs11,zs12,zs1l⟩:=c3_of (keepq hks1 S2.out);obtain ⟨gs10,gs11,gs12,gs1l⟩:=c3_of (keepq hks1 S3.out);obtain ⟨ts10,ts11,ts12,ts1l⟩:=c3_of (keepq hks1 S4.out))|(go_at_call 45;(with_reducible refine (HO2.out _ (keep_trans HB5.out (by (repeat (first|assumption|exact Below.refl _ _|refine keep_drew ?_|refine keep_alloc ?_ _|refine keep_trans ?_ (by assumption)))))).mono ?_);rintro _ s2 ⟨rfl,hbs2⟩;have hks2:Below V5.heap.size V5 s2:=(by (repeat (first|assumption|exact Below.refl _ _|refine keep_drew ?_|refine keep_alloc ?_ _|refine keep_trans ?_ (by assumption))));obtain ⟨xs20,xs21,xs22,xs2l⟩:=c3_of (keepq hks2 S0.out);obtain ⟨ys20,ys21,ys22,ys2l⟩:=c3_of (keepq hks2 S1.out);obtain ⟨zs20,zs21,zs22,zs2l⟩:=c3_of (keepq hks2 S2.out);obtain ⟨gs20,gs21,gs22,gs2l⟩:=c3_of (keepq hks2 S3.out);obtain ⟨ts20,ts21,ts22,ts2l⟩:=c3_of (keepq hks2 S4.out))|(go_at_call 45;(with_reducible refine (HO3.out _ _ _ _ _ (HI5.out.mono (by (repeat (first|assumption|exact Below.refl _ _|refine keep_drew ?_|refine keep_alloc ?_ _|refine keep_trans ?_ (by assumption))))) (HJ5.out.mono (by (repeat (first|assumption|exact Below.refl _ _|refine keep_drew ?_|refine keep_alloc ?_ _|refine keep_trans ?_ (by assumption)))))).mono ?_);rintro _ s3 ⟨rfl,hbs3⟩)|(go_at_call 20;refine (awake4_c _).mono ?_;rintro _ wz ⟨rfl,hbz⟩)|fail)
   refine bodyPost_ret (v := .bool true) ?_ rfl ⟨rfl,keep_trans HB5.out (show Below V5.heap.size V5 wz by (repeat (first|assumption|exact Below.refl _ _|refine keep_drew ?_|refine keep_alloc ?_ _|refine keep_trans ?_ (by assumption))))⟩
   simp[results,Tryz.f13,go_sem]
  ·omega
theorem orth_val {N:Nat} {cs ds:List Int} (L:Latin N cs) (D:Latin N ds):orthV (N:Int) (N:Int) cs (N:Int) (N:Int) ds = .tuple #[.bool (meetR cs ds).isNone,.int .i64 0]:=by
 have h:twoE (N:Int) (N:Int) cs (N:Int) (N:Int) ds=0:=by
  unfold twoE
  rw[lat_sqE L,lat_sqE D,show ((N:Int) != (N:Int))=false by simp]
  rfl
 unfold orthV
 rw[if_pos h]
theorem isNone_iff {cs ds:List Int}:(meetR cs ds).isNone=true↔Ortho cs ds:=by
 rw[Option.isNone_iff_eq_none,meetR_none]
theorem kinds_sc {w:World} {l:List ByteArray} {er:Int} {e:Ending} {w':World} (h:KindsE w l er e w') (hl:l.length≤1000):∃a k c,e = .returned (.tuple #[.slice a k c,.int .i64 er])∧SC w' a k l∧Below w.heap.size w w':=by
 obtain ⟨a,c,he,ho,hb⟩:=h
 refine ⟨a,l.length,c,he,⟨⟨rfl,hl⟩,fun k hk=>?_⟩,hb⟩
 obtain ⟨g,cap,x,hv,hx,hc,_,hg,_⟩:=owns_free ho k hk
 simp only[Value.slice.injEq,true_and] at hv
 obtain ⟨rfl,_⟩:=hv
 refine ⟨g,0,rfl,hg,?_⟩
 rw[List.getElem?_map,List.getElem?_eq_getElem hk,Option.map_some] at hx
 rw[Nat.zero_add,hc,List.getElem?_eq_getElem hk,Option.getD_some]
 exact hx.symm
theorem kNames_len (n:Nat) (cs:List Int):(kNames n cs 7).length≤1000:=by
 unfold kNames kindTo
 rw[List.length_map]
 exact Nat.le_trans (List.length_filter_le _ _) (by simp)
theorem four_of {N n:Nat} (hn:n=N*N) (h:¬16<n):N≤4:=by
 by_cases h5:N≤4
 ·exact h5
 ·have:=Nat.mul_le_mul (show 5≤N by omega) (show 5≤N by omega)
  omega
theorem lproducts_c (r C:Int) (a:Option Addr) (n c:Nat) (cs:List Int) (r2 C2:Int) (a2:Option Addr) (n2 c2:Nat) (ds:List Int) (r3 C3:Int) (a3:Option Addr) (n3 c3:Nat) (es:List Int) (w:World) (h:IC w a n cs) (hc:n≤c) (h2:IC w a2 n2 ds) (hc2:n2≤c2) (h3:IC w a3 n3 es) (_hc3:n3≤c3):Calls Tryz.prog 13 #[.agg #[.int .i64 r,.int .i64 C,.slice a n c],.agg #[.int .i64 r2,.int .i64 C2,.slice a2 n2 c2],.agg #[.int .i64 r3,.int .i64 C3,.slice a3 n3 c3]] w fun e w'=>e = .returned (.bool true)∧Below w.heap.size w w':=by
 by_cases g0:16<n
 ·exact lprod_g0 r C a n c r2 C2 a2 n2 c2 r3 C3 a3 n3 c3 w g0
 have HA0:=fun W (hb:Below w.heap.size w W)=>rcheck_c r C a n c cs W (h.mono hb)
 by_cases e0:sqE 0 r C cs=0
 case neg=>exact lprod_c0 r C a n c r2 C2 a2 n2 c2 r3 C3 a3 n3 c3 w g0 _ e0 HA0
 rw[e0] at HA0
 by_cases g1:16<n2
 ·exact lprod_g1 r C a n c r2 C2 a2 n2 c2 r3 C3 a3 n3 c3 w g0 g1 HA0
 have HA1:=fun W (hb:Below w.heap.size w W)=>rcheck_c r2 C2 a2 n2 c2 ds W (h2.mono hb)
 by_cases e1:sqE 0 r2 C2 ds=0
 case neg=>exact lprod_c1 r C a n c r2 C2 a2 n2 c2 r3 C3 a3 n3 c3 w g0 g1 _ e1 HA0 HA1
 rw[e1] at HA1
 by_cases g2:16<n3
 ·exact lprod_g2 r C a n c r2 C2 a2 n2 c2 r3 C3 a3 n3 c3 w g0 g1 g2 HA0 HA1
 have HA2:=fun W (hb:Below w.heap.size w W)=>rcheck_c r3 C3 a3 n3 c3 es W (h3.mono hb)
 by_cases e2:sqE 0 r3 C3 es=0
 case neg=>exact lprod_c2 r C a n c r2 C2 a2 n2 c2 r3 C3 a3 n3 c3 w g0 g1 g2 _ e2 HA0 HA1 HA2
 rw[e2] at HA2
 obtain ⟨N,rfl,rfl,LA⟩:=sqE_ok e0
 obtain ⟨M,rfl,rfl,LB⟩:=sqE_ok e1
 obtain ⟨K,rfl,rfl,LC⟩:=sqE_ok e2
 have hN4:=four_of (by rw[← h.len];exact LA.len) g0
 have hM4:=four_of (by rw[← h2.len];exact LB.len) g1
 have hp16:N*M≤16:=Nat.mul_le_mul hN4 hM4
 have hp:(N:Int)*(M:Int)=((N*M:Nat):Int):=(Int.natCast_mul _ _).symm
 have hprod:∀{cs':List Int} {a':Option Addr} {n' c':Nat},Latin N cs'→IC w a' n' cs'→∀W,Below w.heap.size w W→Calls Tryz.prog 71 #[.agg #[.int .i64 (N:Int),.int .i64 (N:Int),.slice a' n' c'],.agg #[.int .i64 (M:Int),.int .i64 (M:Int),.slice a2 n2 c2]] W fun e w'=>∃a4 c4,e = .returned (.tuple #[.agg #[.int .i64 ((N*M:Nat):Int),.int .i64 ((N*M:Nat):Int),.slice a4 (N*M*(N*M)) c4],.int .i64 0])∧IC w' a4 (N*M*(N*M)) (proC N M cs' ds)∧N*M*(N*M)≤c4∧Below W.heap.size W w':=fun {cs' a' n' c'} L' hi W hb=>by
  have hpe:proE (N:Int) (N:Int) cs' (M:Int) (M:Int) ds=0:=by
   unfold proE
   rw[lat_sqE L',lat_sqE LB,if_pos (by rfl),if_neg (by rw[hp];omega)]
  have hpl:proL (N:Int) (N:Int) cs' (M:Int) (M:Int) ds=proC N M cs' ds:=by
   unfold proL
   rw[if_pos hpe,Int.toNat_natCast,Int.toNat_natCast];rfl
  have h9:=product_c (N:Int) (N:Int) a' n' c' cs' (M:Int) (M:Int) a2 n2 c2 ds W (hi.mono hb) (h2.mono hb)
  rw[hpe,if_pos rfl,hpl,hp] at h9
  refine h9.mono fun e w' hg=>?_
  have hmm:=Nat.mul_le_mul hp16 hp16
  obtain ⟨a4,c4,he,hi4,hc4,hb4⟩:=gv_of hg (by rw[proC_len];omega)
  rw[proC_len] at he hi4 hc4
  exact ⟨a4,c4,he,hi4,hc4,hb4⟩
 have PL:=pro_latin LA LB hp16
 have HPC:∀W a4 c4,IC W a4 (N*M*(N*M)) (proC N M cs ds)→Calls Tryz.prog 22 #[.agg #[.int .i64 ((N*M:Nat):Int),.int .i64 ((N*M:Nat):Int),.slice a4 (N*M*(N*M)) c4]] W fun e w'=>e = .returned (.int .i64 0)∧Below W.heap.size W w':=fun W a4 c4 hi=>by
  have:=rcheck_c ((N*M:Nat):Int) ((N*M:Nat):Int) a4 _ c4 _ W hi
  rw[lat_sqE PL] at this
  exact this
 have hkin:∀{n0:Nat} {xs:List Int} {a':Option Addr} {n' c':Nat} {W:World},Latin n0 xs→IC W a' n' xs→n'≤c'→Calls Tryz.prog 72 #[.agg #[.int .i64 (n0:Int),.int .i64 (n0:Int),.slice a' n' c']] W fun e w'=>∃a5 k5 c5,e = .returned (.tuple #[.slice a5 k5 c5,.int .i64 0])∧SC w' a5 k5 (kNames n0 xs 7)∧Below W.heap.size W w':=fun {n0 xs a' n' c' W} L' hi hc'=>by
  have h9:=Kinds_c (n0:Int) (n0:Int) a' n' c' xs W hi hc'
  rw[lat_sqE L',show kiL (n0:Int) (n0:Int) xs=kNames n0 xs 7 by unfold kiL;rw[if_pos (lat_sqE L'),Int.toNat_natCast]] at h9
  exact h9.mono fun e w' hg=>kinds_sc hg (kNames_len _ _)
 have HKA:=fun W (hb:Below w.heap.size w W)=>hkin LA (h.mono hb) hc
 have HKB:=fun W (hb:Below w.heap.size w W)=>hkin LB (h2.mono hb) hc2
 have HKP:=fun W a4 c4 (hi:IC W a4 (N*M*(N*M)) (proC N M cs ds)) (hq:N*M*(N*M)≤c4)=>hkin (c':=c4) PL hi hq
 have eA:=names_gr N cs
 have eB:=names_gr M ds
 have eP:=(names_gr (N*M) (proC N M cs ds)).trans (pro_grp LA LB hp16)
 generalize kNames N cs 7=lA at eA HKA
 generalize kNames M ds 7=lB at eB HKB
 generalize kNames (N*M) (proC N M cs ds) 7=lP at eP HKP
 generalize kGrp M ds=kB at eB eP
 have HP:=hprod (c':=c) LA h
 by_cases hKN:K=N
 ·subst hKN
  have HP2:=hprod (c':=c3) LC h3
  have hne:((K:Int) != (K:Int))=false:=by simp
  have hoo:(meetR (proC K M cs ds) (proC K M es ds)).isNone=((meetR cs es).isNone&&(meetR ds ds).isNone):=by
   rw[Bool.eq_iff_iff,Bool.and_eq_true,isNone_iff,isNone_iff,isNone_iff]
   exact pro_ortho LA LB LC hp16
  have HO1:∀W,Below w.heap.size w W→Calls Tryz.prog 45 #[.agg #[.int .i64 (K:Int),.int .i64 (K:Int),.slice a n c],.agg #[.int .i64 (K:Int),.int .i64 (K:Int),.slice a3 n3 c3]] W fun e w'=>e = .returned (.tuple #[.bool (meetR cs es).isNone,.int .i64 0])∧Below W.heap.size W w':=fun W hb=>by
   have:=orth_c (K:Int) (K:Int) (K:Int) (K:Int) a n c cs a3 n3 c3 es W (h.mono hb) (h3.mono hb)
   rw[orth_val LA LC] at this
   exact this
  have HO2:∀W,Below w.heap.size w W→Calls Tryz.prog 45 #[.agg #[.int .i64 (M:Int),.int .i64 (M:Int),.slice a2 n2 c2],.agg #[.int .i64 (M:Int),.int .i64 (M:Int),.slice a2 n2 c2]] W fun e w'=>e = .returned (.tuple #[.bool (meetR ds ds).isNone,.int .i64 0])∧Below W.heap.size W w':=fun W hb=>by
   have:=orth_c (M:Int) (M:Int) (M:Int) (M:Int) a2 n2 c2 ds a2 n2 c2 ds W (h2.mono hb) (h2.mono hb)
   rw[orth_val LB LB] at this
   exact this
  have HO3:∀W a4 c4 a9 c9,IC W a4 (K*M*(K*M)) (proC K M cs ds)→IC W a9 (K*M*(K*M)) (proC K M es ds)→Calls Tryz.prog 45 #[.agg #[.int .i64 ((K*M:Nat):Int),.int .i64 ((K*M:Nat):Int),.slice a4 (K*M*(K*M)) c4],.agg #[.int .i64 ((K*M:Nat):Int),.int .i64 ((K*M:Nat):Int),.slice a9 (K*M*(K*M)) c9]] W fun e w'=>e = .returned (.tuple #[.bool ((meetR cs es).isNone&&(meetR ds ds).isNone),.int .i64 0])∧Below W.heap.size W w':=fun W a4 c4 a9 c9 hi hj=>by
   have:=orth_c ((K*M:Nat):Int) ((K*M:Nat):Int) ((K*M:Nat):Int) ((K*M:Nat):Int) a4 _ c4 _ a9 _ c9 _ W hi hj
   rw[orth_val PL (pro_latin LC LB hp16),hoo] at this
   exact this
  generalize (meetR ds ds).isNone=o2 at HO2 HO3
  cases ho1:(meetR cs es).isNone with
  | true =>
   rw[ho1] at HO1 HO3
   cases hk:kGrp K cs with
   | true =>
    rw[hk] at eA eP
    exact lprod_stt K M K a n c a2 n2 c2 a3 n3 c3 w g0 g1 g2 _ _ hp hp16 _ lA lB lP kB eA eB eP _ o2 hne HA0 HA1 HA2 HP HPC HKA HKB HKP HP2 HO1 HO2 HO3
   | false =>
    rw[hk] at eA eP
    exact lprod_sft K M K a n c a2 n2 c2 a3 n3 c3 w g0 g1 g2 _ _ hp hp16 _ lA lB lP kB eA eB eP _ o2 hne HA0 HA1 HA2 HP HPC HKA HKB HKP HP2 HO1 HO2 HO3
  | false =>
   rw[ho1] at HO1 HO3
   cases hk:kGrp K cs with
   | true =>
    rw[hk] at eA eP
    exact lprod_stf K M K a n c a2 n2 c2 a3 n3 c3 w g0 g1 g2 _ _ hp hp16 _ lA lB lP kB eA eB eP _ o2 hne HA0 HA1 HA2 HP HPC HKA HKB HKP HP2 HO1 HO2 HO3
   | false =>
    rw[hk] at eA eP
    exact lprod_sff K M K a n c a2 n2 c2 a3 n3 c3 w g0 g1 g2 _ _ hp hp16 _ lA lB lP kB eA eB eP _ o2 hne HA0 HA1 HA2 HP HPC HKA HKB HKP HP2 HO1 HO2 HO3
 ·have hne:((K:Int) != (N:Int))=true:=by simpa using (show ¬(K:Int)=(N:Int) by omega)
  cases hk:kGrp N cs with
  | true =>
   rw[hk] at eA eP
   exact lprod_nt N M K a n c a2 n2 c2 a3 n3 c3 w g0 g1 g2 _ _ hp hp16 _ lA lB lP kB eA eB eP hne HA0 HA1 HA2 HP HPC HKA HKB HKP
  | false =>
   rw[hk] at eA eP
   exact lprod_nf N M K a n c a2 n2 c2 a3 n3 c3 w g0 g1 g2 _ _ hp hp16 _ lA lB lP kB eA eB eP hne HA0 HA1 HA2 HP HPC HKA HKB HKP
end
end Go.Proofs.YtmfpdakaeagdpaaGreat
