/- Texts J175 to J175 of this proof, in one file. -/
import Derived.Test.YtmfpdakaeagdpaaGreatW01
import Derived.Test.YtmfpdakaeagdpaaGreatW02
import Derived.Test.YtmfpdakaeagdpaaGreatW03
import Derived.Test.YtmfpdakaeagdpaaGreatW04
import Derived.Test.YtmfpdakaeagdpaaGreatW05
import Derived.Test.YtmfpdakaeagdpaaGreatW06
import Derived.Test.YtmfpdakaeagdpaaGreatW07
import Derived.Test.YtmfpdakaeagdpaaGreatW08
import Derived.Test.YtmfpdakaeagdpaaGreatW09
import Derived.Test.YtmfpdakaeagdpaaGreatW10
import Derived.Test.YtmfpdakaeagdpaaGreatW11
import Derived.Test.YtmfpdakaeagdpaaGreatW12
import Derived.Test.YtmfpdakaeagdpaaGreatW13
import Derived.Test.YtmfpdakaeagdpaaGreatW14
import Derived.Test.YtmfpdakaeagdpaaGreatW15
import Derived.Test.YtmfpdakaeagdpaaGreatW16
import Derived.Test.YtmfpdakaeagdpaaGreatW17
import Derived.Test.YtmfpdakaeagdpaaGreatW18
import Derived.Test.YtmfpdakaeagdpaaGreatW19
import Derived.Test.YtmfpdakaeagdpaaGreatW20
import Derived.Test.YtmfpdakaeagdpaaGreatW21
import Derived.Test.YtmfpdakaeagdpaaGreatW22
import Derived.Test.YtmfpdakaeagdpaaGreatW23
import Derived.Test.YtmfpdakaeagdpaaGreatW24
import Derived.Test.YtmfpdakaeagdpaaGreatW25
import Derived.Test.YtmfpdakaeagdpaaGreatW26
import Derived.Test.YtmfpdakaeagdpaaGreatW27
import Derived.Test.YtmfpdakaeagdpaaGreatX33n01
import Derived.Test.YtmfpdakaeagdpaaGreatX33n02
import Derived.Test.YtmfpdakaeagdpaaGreatX33n03
import Derived.Test.YtmfpdakaeagdpaaGreatX33n04
import Derived.Below
import Derived.BigFrame
import Derived.BigQuiet
import Derived.Deep.CutBlock
import Derived.Deep.CutRange
import Derived.Deep.LoopGhost
import Derived.Deep.Quiet
import Derived.Deep.RegionHeld3
import Derived.DeepKeys4
import Derived.KernelRfl
import Derived.Laws.BitsAllLaws
import Derived.Laws.EntriesVeiled
import Derived.Lib.AppendZeros
import Derived.Lib.Hide
import Derived.Lib.SlKeysI
import Derived.Lib.SliceRun
import Derived.LoopIn
import Derived.LoopNIn
import Derived.Maps.AppendAt
import Derived.Maps.OwnIn
import Derived.Maps.OwnSet
import Derived.OneCell
import Derived.OrdersHeld
import Derived.OrdersIn
import Derived.OwnWalkIn
import Derived.RangeFuncBound
import Derived.RangeFuncBox
import Derived.RangeFuncCalls
import Derived.RangeFuncLeaves
import Derived.RangeFuncNested
import Derived.RangeFuncWrites
import Derived.Shelf.Abstract
import Derived.Shelf.SortM.Plain
import Derived.Still
import Derived.TacticsIn
import Derived.TacticsInMore
import Derived.Test.YtmfpdakaeagdpaaGreatProg
import Derived.WalkKit
import Derived.WalkLawsBesides
import Derived.WalkSpells
import Derived.WideKeyPair
namespace Go.Proofs.YtmfpdakaeagdpaaGreat
set_option maxRecDepth 100000
set_option maxHeartbeats 16000000
section
open Go Go.RowKit
attribute [local go_sem] over_cell
attribute [local go_sem] Oper.semAt_some
theorem ix3_0 (x0 x1 x2:Value) (w:World):(Instr.index 96 (.agg #[x0,x1,x2]) (.int .i64 0)).run Tryz.prog w = .ok x0 w:=by kernel_rfl
theorem ix3_1 (x0 x1 x2:Value) (w:World):(Instr.index 96 (.agg #[x0,x1,x2]) (.int .i64 1)).run Tryz.prog w = .ok x1 w:=by kernel_rfl
theorem ix3_2 (x0 x1 x2:Value) (w:World):(Instr.index 96 (.agg #[x0,x1,x2]) (.int .i64 2)).run Tryz.prog w = .ok x2 w:=by kernel_rfl
theorem set3 {x0 x1 x2 v:Int} {q:Nat} (hq:q<3):(#[Value.int .i64 x0,.int .i64 x1,.int .i64 x2]).setIfInBounds q (.int .i64 v)=#[.int .i64 (if q=0 then v else x0),.int .i64 (if q=1 then v else x1),.int .i64 (if q=2 then v else x2)]:=by
 rcases (show q=0∨q=1∨q=2 by omega) with rfl|rfl|rfl <;> rfl
def tvN (q1 q2 k j:Nat):Nat:=if k≤1 then 0 else if k=2 then (if q1=j then 1 else 0) else if q2=j then 2 else if q1=j then 1 else 0
theorem tv_perm {q0 q1 q2:Nat} (h:Perm3 q0 q1 q2):Perm3 (tvN q1 q2 3 0) (tvN q1 q2 3 1) (tvN q1 q2 3 2)∧∀f:Nat→Nat,[f q0,f q1,f q2][tvN q1 q2 3 0]?.getD 0=f 0∧[f q0,f q1,f q2][tvN q1 q2 3 1]?.getD 0=f 1∧[f q0,f q1,f q2][tvN q1 q2 3 2]?.getD 0=f 2:=by
 rcases h.cases with ⟨rfl,rfl,rfl⟩|⟨rfl,rfl,rfl⟩|⟨rfl,rfl,rfl⟩|⟨rfl,rfl,rfl⟩|⟨rfl,rfl,rfl⟩|⟨rfl,rfl,rfl⟩ <;> exact ⟨by unfold Perm3;decide,fun f=>⟨rfl,rfl,rfl⟩⟩
theorem perm3_of {p0 p1 p2:Int} (h:cpE [p0,p1,p2] 3=0):∃q0 q1 q2:Nat,p0=(q0:Int)∧p1=(q1:Int)∧p2=(q2:Int)∧Perm3 q0 q1 q2:=cp3_ok h
theorem lisot_g (r C:Int) (a:Option Addr) (n c:Nat) (aR:Option Addr) (nR cR:Nat) (aK:Option Addr) (nK cK:Nat) (aM:Option Addr) (nM cM:Nat) (p0 p1 p2:Int) (w:World) (h0:25<n):Calls Tryz.prog 18 #[.agg #[.int .i64 r,.int .i64 C,.slice a n c],.agg #[.slice aR nR cR,.slice aK nK cK,.slice aM nM cM,.int .i64 p0,.int .i64 p1,.int .i64 p2]] w fun e w'=>e = .returned (.bool true)∧Below w.heap.size w w':=by
 have hg0:decide ((25:Int)<(n:Int))=true:=decide_eq_true (by omega)
 go_enter Tryz.func18,Tryz.ntmps18
 go_upto_region 1 with fail
 have fsz:((w.alloc (.cells #[.int .i64 r,.int .i64 C,.slice a n c] 24)).alloc (.cells #[.slice aR nR cR,.slice aK nK cK,.slice aM nM cM,.int .i64 p0,.int .i64 p1,.int .i64 p2] 98)).heap.size=w.heap.size+2:=by simp only[World.size_alloc] <;> omega
 have fB:Below w.heap.size w ((w.alloc (.cells #[.int .i64 r,.int .i64 C,.slice a n c] 24)).alloc (.cells #[.slice aR nR cR,.slice aK nK cK,.slice aM nM cM,.int .i64 p0,.int .i64 p1,.int .i64 p2] 98)):=((Below.refl _ _).alloc (Nat.le_refl _) _).alloc (by simp only[World.size_alloc];omega) _
 have fq0:((w.alloc (.cells #[.int .i64 r,.int .i64 C,.slice a n c] 24)).alloc (.cells #[.slice aR nR cR,.slice aK nK cK,.slice aM nM cM,.int .i64 p0,.int .i64 p1,.int .i64 p2] 98)).heap[w.heap.size]?=some (.cells #[.int .i64 r,.int .i64 C,.slice a n c] 24 (0,0)):=by have h:=World.alloc_heap_new w (.cells #[.int .i64 r,.int .i64 C,.slice a n c] 24);exact (Below.heap_alloc _ _ _ (by simp only[World.size_alloc];omega)).trans (h)
 have fq1:((w.alloc (.cells #[.int .i64 r,.int .i64 C,.slice a n c] 24)).alloc (.cells #[.slice aR nR cR,.slice aK nK cK,.slice aM nM cM,.int .i64 p0,.int .i64 p1,.int .i64 p2] 98)).heap[w.heap.size+1]?=some (.cells #[.slice aR nR cR,.slice aK nK cK,.slice aM nM cM,.int .i64 p0,.int .i64 p1,.int .i64 p2] 98 (0,0)):=by have h:=World.alloc_heap_new (w.alloc (.cells #[.int .i64 r,.int .i64 C,.slice a n c] 24)) (.cells #[.slice aR nR cR,.slice aK nK cK,.slice aM nM cM,.int .i64 p0,.int .i64 p1,.int .i64 p2] 98);simp only[World.size_alloc] at h;exact h
 generalize ((w.alloc (.cells #[.int .i64 r,.int .i64 C,.slice a n c] 24)).alloc (.cells #[.slice aR nR cR,.slice aK nK cK,.slice aM nM cM,.int .i64 p0,.int .i64 p1,.int .i64 p2] 98))=W0 at fsz fB fq0 fq1 ⊢
 have Q0:=Lib.hid fq0
 have Q1:=Lib.hid fq1
 have HB:=Lib.hid fB
 clear fq0 fq1 fsz fB
 obtain ⟨x0,x1,x2,xl⟩:=c3_of Q0.out
 go_wp2_with (first|(go_at_call 19;refine (lgreat_c r C a n c 25 _).mono ?_;rintro _ g1 ⟨rfl,hbg1⟩)|(go_at_call 20;refine (awake4_c _).mono ?_;rintro _ wz ⟨rfl,hbz⟩)|fail)
 refine bodyPost_ret (v := .bool true) ?_ rfl ⟨rfl,keep_trans HB.out (keep_trans hbg1 hbz)⟩
 simp[results,Tryz.f18,go_sem]
theorem lisot_a (r C:Int) (a:Option Addr) (n c:Nat) (aR:Option Addr) (nR cR:Nat) (aK:Option Addr) (nK cK:Nat) (aM:Option Addr) (nM cM:Nat) (p0 p1 p2:Int) (w:World) (h0:¬25<n) (ea:Int) (hea:ea≠0) (HA:∀W,Below w.heap.size w W→Calls Tryz.prog 22 #[.agg #[.int .i64 r,.int .i64 C,.slice a n c]] W fun e w'=>e = .returned (.int .i64 ea)∧Below W.heap.size W w'):Calls Tryz.prog 18 #[.agg #[.int .i64 r,.int .i64 C,.slice a n c],.agg #[.slice aR nR cR,.slice aK nK cK,.slice aM nM cM,.int .i64 p0,.int .i64 p1,.int .i64 p2]] w fun e w'=>e = .returned (.bool true)∧Below w.heap.size w w':=by
 have hg0:decide ((25:Int)<(n:Int))=false:=decide_eq_false (by omega)
 have e1:(ea != 0)=true:=by simpa using hea
 clear hea
 replace HA:=Lib.hid HA
 go_enter Tryz.func18,Tryz.ntmps18
 go_upto_region 1 with fail
 have fsz:((w.alloc (.cells #[.int .i64 r,.int .i64 C,.slice a n c] 24)).alloc (.cells #[.slice aR nR cR,.slice aK nK cK,.slice aM nM cM,.int .i64 p0,.int .i64 p1,.int .i64 p2] 98)).heap.size=w.heap.size+2:=by simp only[World.size_alloc] <;> omega
 have fB:Below w.heap.size w ((w.alloc (.cells #[.int .i64 r,.int .i64 C,.slice a n c] 24)).alloc (.cells #[.slice aR nR cR,.slice aK nK cK,.slice aM nM cM,.int .i64 p0,.int .i64 p1,.int .i64 p2] 98)):=((Below.refl _ _).alloc (Nat.le_refl _) _).alloc (by simp only[World.size_alloc];omega) _
 have fq0:((w.alloc (.cells #[.int .i64 r,.int .i64 C,.slice a n c] 24)).alloc (.cells #[.slice aR nR cR,.slice aK nK cK,.slice aM nM cM,.int .i64 p0,.int .i64 p1,.int .i64 p2] 98)).heap[w.heap.size]?=some (.cells #[.int .i64 r,.int .i64 C,.slice a n c] 24 (0,0)):=by have h:=World.alloc_heap_new w (.cells #[.int .i64 r,.int .i64 C,.slice a n c] 24);exact (Below.heap_alloc _ _ _ (by simp only[World.size_alloc];omega)).trans (h)
 have fq1:((w.alloc (.cells #[.int .i64 r,.int .i64 C,.slice a n c] 24)).alloc (.cells #[.slice aR nR cR,.slice aK nK cK,.slice aM nM cM,.int .i64 p0,.int .i64 p1,.int .i64 p2] 98)).heap[w.heap.size+1]?=some (.cells #[.slice aR nR cR,.slice aK nK cK,.slice aM nM cM,.int .i64 p0,.int .i64 p1,.int .i64 p2] 98 (0,0)):=by have h:=World.alloc_heap_new (w.alloc (.cells #[.int .i64 r,.int .i64 C,.slice a n c] 24)) (.cells #[.slice aR nR cR,.slice aK nK cK,.slice aM nM cM,.int .i64 p0,.int .i64 p1,.int .i64 p2] 98);simp only[World.size_alloc] at h;exact h
 generalize ((w.alloc (.cells #[.int .i64 r,.int .i64 C,.slice a n c] 24)).alloc (.cells #[.slice aR nR cR,.slice aK nK cK,.slice aM nM cM,.int .i64 p0,.int .i64 p1,.int .i64 p2] 98))=W0 at fsz fB fq0 fq1 ⊢
 have Q0:=Lib.hid fq0
 have Q1:=Lib.hid fq1
 have HB:=Lib.hid fB
 clear fq0 fq1 fsz fB
 obtain ⟨x0,x1,x2,xl⟩:=c3_of Q0.out
 go_wp2_with (first|(go_at_call 19;(with_reducible refine (lgreat_c r C a n c 25 _).mono ?_);rintro _ g1 ⟨rfl,hbg1⟩;have hkg1:Below W0.heap.size W0 g1:=hbg1;obtain ⟨xg10,xg11,xg12,xg1l⟩:=c3_of (keepq hkg1 Q0.out))|(go_at_call 22;(with_reducible refine (HA.out _ (keep_trans HB.out hkg1)).mono ?_);rintro _ g2 ⟨rfl,hbg2⟩)|(go_at_call 20;refine (awake4_c _).mono ?_;rintro _ wz ⟨rfl,hbz⟩)|fail)
 refine bodyPost_ret (v := .bool true) ?_ rfl ⟨rfl,keep_trans HB.out (keep_trans hkg1 (keep_trans hbg2 hbz))⟩
 simp[results,Tryz.f18,go_sem]
theorem lisot_p (r C:Int) (a:Option Addr) (n c:Nat) (aR:Option Addr) (nR cR:Nat) (aK:Option Addr) (nK cK:Nat) (aM:Option Addr) (nM cM:Nat) (p0 p1 p2:Int) (w:World) (h0:¬25<n) (e0 e1 e2 e3:Int) (hb:(0≤e0∧e0≤100)∧(0≤e1∧e1≤100)∧(0≤e2∧e2≤100)∧(0≤e3∧e3≤100)) (hs:e0+e1+e2+e3≠0) (HA:∀W,Below w.heap.size w W→Calls Tryz.prog 22 #[.agg #[.int .i64 r,.int .i64 C,.slice a n c]] W fun e w'=>e = .returned (.int .i64 0)∧Below W.heap.size W w') (P0:∀W,Below w.heap.size w W→Calls Tryz.prog 86 #[.slice aR nR cR,.int .i64 r] W fun e w'=>e = .returned (.int .i64 e0)∧Below W.heap.size W w') (P1:∀W,Below w.heap.size w W→Calls Tryz.prog 86 #[.slice aK nK cK,.int .i64 r] W fun e w'=>e = .returned (.int .i64 e1)∧Below W.heap.size W w') (P2:∀W,Below w.heap.size w W→Calls Tryz.prog 86 #[.slice aM nM cM,.int .i64 r] W fun e w'=>e = .returned (.int .i64 e2)∧Below W.heap.size W w') (P3:∀W b,IC W (some ⟨b,3,none⟩) 3 [p0,p1,p2]→Calls Tryz.prog 86 #[.slice (some ⟨b,3,none⟩) 3 3,.int .i64 3] W fun e w'=>e = .returned (.int .i64 e3)∧Below W.heap.size W w'):Calls Tryz.prog 18 #[.agg #[.int .i64 r,.int .i64 C,.slice a n c],.agg #[.slice aR nR cR,.slice aK nK cK,.slice aM nM cM,.int .i64 p0,.int .i64 p1,.int .i64 p2]] w fun e w'=>e = .returned (.bool true)∧Below w.heap.size w w':=by
 have hg0:decide ((25:Int)<(n:Int))=false:=decide_eq_false (by omega)
 obtain ⟨⟨ha0,hb0⟩,⟨ha1,hb1⟩,⟨ha2,hb2⟩,⟨ha3,hb3⟩⟩:=hb
 have d1:(e0+e1+e2+e3 != 0)=true:=by simpa using hs
 clear hs
 replace HA:=Lib.hid HA
 replace P0:=Lib.hid P0
 replace P1:=Lib.hid P1
 replace P2:=Lib.hid P2
 replace P3:=Lib.hid P3
 go_enter Tryz.func18,Tryz.ntmps18
 go_upto_region 1 with fail
 have fsz:((w.alloc (.cells #[.int .i64 r,.int .i64 C,.slice a n c] 24)).alloc (.cells #[.slice aR nR cR,.slice aK nK cK,.slice aM nM cM,.int .i64 p0,.int .i64 p1,.int .i64 p2] 98)).heap.size=w.heap.size+2:=by simp only[World.size_alloc] <;> omega
 have fB:Below w.heap.size w ((w.alloc (.cells #[.int .i64 r,.int .i64 C,.slice a n c] 24)).alloc (.cells #[.slice aR nR cR,.slice aK nK cK,.slice aM nM cM,.int .i64 p0,.int .i64 p1,.int .i64 p2] 98)):=((Below.refl _ _).alloc (Nat.le_refl _) _).alloc (by simp only[World.size_alloc];omega) _
 have fq0:((w.alloc (.cells #[.int .i64 r,.int .i64 C,.slice a n c] 24)).alloc (.cells #[.slice aR nR cR,.slice aK nK cK,.slice aM nM cM,.int .i64 p0,.int .i64 p1,.int .i64 p2] 98)).heap[w.heap.size]?=some (.cells #[.int .i64 r,.int .i64 C,.slice a n c] 24 (0,0)):=by have h:=World.alloc_heap_new w (.cells #[.int .i64 r,.int .i64 C,.slice a n c] 24);exact (Below.heap_alloc _ _ _ (by simp only[World.size_alloc];omega)).trans (h)
 have fq1:((w.alloc (.cells #[.int .i64 r,.int .i64 C,.slice a n c] 24)).alloc (.cells #[.slice aR nR cR,.slice aK nK cK,.slice aM nM cM,.int .i64 p0,.int .i64 p1,.int .i64 p2] 98)).heap[w.heap.size+1]?=some (.cells #[.slice aR nR cR,.slice aK nK cK,.slice aM nM cM,.int .i64 p0,.int .i64 p1,.int .i64 p2] 98 (0,0)):=by have h:=World.alloc_heap_new (w.alloc (.cells #[.int .i64 r,.int .i64 C,.slice a n c] 24)) (.cells #[.slice aR nR cR,.slice aK nK cK,.slice aM nM cM,.int .i64 p0,.int .i64 p1,.int .i64 p2] 98);simp only[World.size_alloc] at h;exact h
 generalize ((w.alloc (.cells #[.int .i64 r,.int .i64 C,.slice a n c] 24)).alloc (.cells #[.slice aR nR cR,.slice aK nK cK,.slice aM nM cM,.int .i64 p0,.int .i64 p1,.int .i64 p2] 98))=W0 at fsz fB fq0 fq1 ⊢
 have Q0:=Lib.hid fq0
 have Q1:=Lib.hid fq1
 have HB:=Lib.hid fB
 clear fq0 fq1 fsz fB
 obtain ⟨x0,x1,x2,xl⟩:=c3_of Q0.out
 go_upto_region 3 with (first|(go_at_call 19;(with_reducible refine (lgreat_c _ _ a n c 25 _).mono ?_);rintro _ g1 ⟨rfl,hbg1⟩;have hkg1:Below W0.heap.size W0 g1:=hbg1;obtain ⟨xg10,xg11,xg12,xg1l⟩:=c3_of (keepq hkg1 Q0.out))|(go_at_call 22;(with_reducible refine (HA.out _ (keep_trans HB.out hkg1)).mono ?_);rintro _ g2 ⟨rfl,hbg2⟩;have hkg2:Below W0.heap.size W0 g2:=keep_trans hkg1 hbg2)|fail)
 clear x0 x1 x2 xl xg10 xg11 xg12 xg1l
 have hmv:Below W0.heap.size W0 g2:=hkg2
 replace Q0:=Lib.hid (keepq hmv Q0.out)
 replace Q1:=Lib.hid (keepq hmv Q1.out)
 replace HB:=Lib.hid (keep_trans HB.out hmv)
 clear hmv hbg1 hkg1 hbg2 hkg2
 obtain ⟨x0,x1,x2,xl⟩:=c3_of Q0.out
 obtain ⟨y0,y1,y2,y3,y4,y5,yl⟩:=c6_of Q1.out
 go_upto_region 4 with fail
 refine wp_region_S (fun w'=>∃u,w'=over (g2) u) [] [(0,0),(0,1),(0,2),(0,4),(0,5),(0,6),(0,9),(0,10),(0,11),(0,14),(0,15),(1,3),(1,7),(0,8),(1,12),(0,13),(1,16),(0,17),(0,18)] (by kernel_rfl) (by kernel_rfl) (by exact ⟨_,below_over (by repeat (first|assumption|exact Below.refl _ _|refine keep_drew ?_|refine keep_alloc ?_ _|refine keep_trans ?_ (by assumption)))⟩) ?_
 dsimp only[pickOps,nthOp]
 repeat (first|(refine wpS_skip rfl (fun K hK=>?_);go_big_quiet_op;refine hK _ ?_;clear hK K)|(refine wpS_quiet rfl rfl (fun K hK=>?_);go_big_quiet_op;refine hK _ ?_;clear hK K)|(refine wpS_loud ?_;go_wp2_with (first|(go_at_call 86;(with_reducible refine (P0.out _ (keep_trans HB.out (by (repeat (first|assumption|exact Below.refl _ _|refine keep_drew ?_|refine keep_alloc ?_ _|refine keep_trans ?_ (by assumption)))))).mono ?_);rintro _ p0w ⟨rfl,hbp0⟩)|(go_at_call 86;(with_reducible refine (P1.out _ (keep_trans HB.out (by (repeat (first|assumption|exact Below.refl _ _|refine keep_drew ?_|refine keep_alloc ?_ _|refine keep_trans ?_ (by assumption)))))).mono ?_);rintro _ p1w ⟨rfl,hbp1⟩)|(go_at_call 86;(with_reducible refine (P2.out _ (keep_trans HB.out (by (repeat (first|assumption|exact Below.refl _ _|refine keep_drew ?_|refine keep_alloc ?_ _|refine keep_trans ?_ (by assumption)))))).mono ?_);rintro _ p2w ⟨rfl,hbp2⟩)|(go_at_call 86;(with_reducible refine (P3.out _ _ (ic_box6 (keepq (by (repeat (first|assumption|exact Below.refl _ _|refine keep_drew ?_|refine keep_alloc ?_ _|refine keep_trans ?_ (by assumption)))) Q1.out))).mono ?_);rintro _ p3w ⟨rfl,hbp3⟩)|fail);refine ⟨?_,?_⟩;focus (exact ⟨_,below_over (by repeat (first|assumption|exact Below.refl _ _|refine keep_drew ?_|refine keep_alloc ?_ _|refine keep_trans ?_ (by assumption)))⟩)))
 refine wpS_end ?_
 have hkp:Below g2.heap.size g2 p3w:=by (repeat (first|assumption|exact Below.refl _ _|refine keep_drew ?_|refine keep_alloc ?_ _|refine keep_trans ?_ (by assumption)))
 go_wp2_with (first|(go_at_call 20;refine (awake4_c _).mono ?_;rintro _ wz ⟨rfl,hbz⟩)|fail)
 refine bodyPost_ret (v := .bool true) ?_ rfl ⟨rfl,keep_trans HB.out (keep_trans hkp hbz)⟩
 simp[results,Tryz.f18,go_sem]
theorem lisot_m (N:Nat) (a:Option Addr) (n c:Nat) (aR:Option Addr) (cR:Nat) (aK:Option Addr) (cK:Nat) (aM:Option Addr) (cM:Nat) (q0 q1 q2:Nat) (w:World) (h0:¬25<n) (hcap:n≤c) (hn:n=N*N) (cs XR XK XM:List Int) (h:IC w a n cs) (hR:IC w aR N XR) (hK:IC w aK N XK) (hM:IC w aM N XM) (LC:Latin N cs) (PR:PermL N XR) (PK:PermL N XK) (PM:PermL N XM) (hq:Perm3 q0 q1 q2) (HA:∀W,Below w.heap.size w W→Calls Tryz.prog 22 #[.agg #[.int .i64 (N:Int),.int .i64 (N:Int),.slice a n c]] W fun e w'=>e = .returned (.int .i64 0)∧Below W.heap.size W w') (P0:∀W,Below w.heap.size w W→Calls Tryz.prog 86 #[.slice aR N cR,.int .i64 (N:Int)] W fun e w'=>e = .returned (.int .i64 0)∧Below W.heap.size W w') (P1:∀W,Below w.heap.size w W→Calls Tryz.prog 86 #[.slice aK N cK,.int .i64 (N:Int)] W fun e w'=>e = .returned (.int .i64 0)∧Below W.heap.size W w') (P2:∀W,Below w.heap.size w W→Calls Tryz.prog 86 #[.slice aM N cM,.int .i64 (N:Int)] W fun e w'=>e = .returned (.int .i64 0)∧Below W.heap.size W w') (P3:∀W b,IC W (some ⟨b,3,none⟩) 3 [(q0:Int),(q1:Int),(q2:Int)]→Calls Tryz.prog 86 #[.slice (some ⟨b,3,none⟩) 3 3,.int .i64 3] W fun e w'=>e = .returned (.int .i64 0)∧Below W.heap.size W w'):Calls Tryz.prog 18 #[.agg #[.int .i64 (N:Int),.int .i64 (N:Int),.slice a n c],.agg #[.slice aR N cR,.slice aK N cK,.slice aM N cM,.int .i64 (q0:Int),.int .i64 (q1:Int),.int .i64 (q2:Int)]] w fun e w'=>e = .returned (.bool true)∧Below w.heap.size w w':=by
 have hg0:decide ((25:Int)<(n:Int))=false:=decide_eq_false (by omega)
 have hN1:=LC.pos
 have hN16:=LC.le
 have hN5:N≤5:=by
  by_cases h6:N≤5
  ·exact h6
  ·have:=Nat.mul_le_mul (show 6≤N by omega) (show 6≤N by omega)
   omega
 have hn1:1≤n:=by rw[hn];exact Nat.mul_pos hN1 hN1
 have hNn:N≤n:=by rw[hn];exact Nat.le_mul_of_pos_left N (by omega)
 have HNN:=Lib.hid hn
 have A1:=iso_latin (x := -1) LC PR PK PM
 have A2:=con_latin (x := -1) LC hq
 have C1:=iso_counts (x := -1) LC PR PK PM
 have C2:=con_counts (x := -1) LC hq
 have K1:=iso_grp_eq (x := -1) LC PR PK PM
 have IBK:=iso_back (x := -1) (y := -1) LC PR PK PM
 have CAG:=con_again (x := -1) (y := -1) LC hq (tv_perm hq).1 (tv_perm hq).2
 have HQ:=Lib.hid hq
 have HTP:=Lib.hid (tv_perm hq).1
 have h3q:=And.intro hq.1 (And.intro hq.2.1 hq.2.2.1)
 obtain ⟨hq0,hq1,hq2⟩:=h3q
 have HLI:=Lib.hid (fun W (hb:Below w.heap.size w W)=>isot_law hn LC PR PK PM a c aR cR aK cK aM cM W (h.mono hb) (hR.mono hb) (hK.mono hb) (hM.mono hb))
 have HLC:=Lib.hid (fun W (hb:Below w.heap.size w W)=>conj_law hn LC hq a c W (h.mono hb))
 have HIV0:=Lib.hid (fun W (hb:Below w.heap.size w W)=>rinvert_c N aR cR XR PR hN1 hN16 W (hR.mono hb))
 have HIV1:=Lib.hid (fun W (hb:Below w.heap.size w W)=>rinvert_c N aK cK XK PK hN1 hN16 W (hK.mono hb))
 have HIV2:=Lib.hid (fun W (hb:Below w.heap.size w W)=>rinvert_c N aM cM XM PM hN1 hN16 W (hM.mono hb))
 have HBKL:=Lib.hid (fun a9 c9 ar cr ak ck an cn W h1 h2 h3 h4=>isot_law hn A1 (invL_perm PR) (invL_perm PK) (invL_perm PM) a9 c9 ar cr ak ck an cn W h1 h2 h3 h4)
 rw[IBK] at HBKL
 have HAGL:=Lib.hid (fun a9 c9 W h1=>conj_law hn A2 (tv_perm hq).1 a9 c9 W h1)
 rw[CAG] at HAGL
 have HRDL:=Lib.hid (fun a9 c9 W h1 h2=>redu_law hn A1 a9 c9 W h1 h2)
 have LRD:=redu_latin (x := -1) A1
 have FRD:=redu_frame (x := -1) A1
 have hcnt:∀X:List Int,Latin N X→(transL N X N []).length=(transL N cs N []).length→∀a9 c9 W,IC W a9 n X→Calls Tryz.prog 82 #[.agg #[.int .i64 (N:Int),.int .i64 (N:Int),.slice a9 n c9]] W fun e w'=>e = .returned (.tuple #[.int .i64 (((transL N cs N []).length:Nat):Int),.bool true])∧Below W.heap.size W w':=fun X LX e9 a9 c9 W hi=>by
  have h9:=lcount_c (N:Int) (N:Int) a9 n c9 X W hi
  rw[(trE_zero LX (by omega)).1,(trE_zero LX (by omega)).2,e9] at h9
  exact h9
 have hint:∀X:List Int,Latin N X→itK N X N=itK N cs N→∀a9 c9 W,IC W a9 n X→Calls Tryz.prog 74 #[.agg #[.int .i64 (N:Int),.int .i64 (N:Int),.slice a9 n c9]] W fun e w'=>e = .returned (.tuple #[.int .i64 ((itK N cs N:Nat):Int),.int .i64 0])∧Below W.heap.size W w':=fun X LX e9 a9 c9 W hi=>by
  have h9:=inter_c (N:Int) (N:Int) a9 n c9 X W hi
  have e0:=lat_sqE LX
  rw[show inL (N:Int) (N:Int) X=(itK N X N:Int) from if_pos e0,show inE (N:Int) (N:Int) X=0 from e0,e9] at h9
  exact h9
 have hkin:∀X:List Int,Latin N X→∀a9 c9 W,IC W a9 n X→n≤c9→Calls Tryz.prog 72 #[.agg #[.int .i64 (N:Int),.int .i64 (N:Int),.slice a9 n c9]] W fun e w'=>∃a k9 c,e = .returned (.tuple #[.slice a k9 c,.int .i64 0])∧SC w' a k9 (kNames N X 7)∧Below W.heap.size W w':=fun X LX a9 c9 W hi hc=>by
  have h9:=Kinds_c (N:Int) (N:Int) a9 n c9 X W hi hc
  have e0:=lat_sqE LX
  rw[e0,show kiL (N:Int) (N:Int) X=kNames N X 7 from by unfold kiL;rw[if_pos e0,Int.toNat_natCast]] at h9
  exact h9.mono fun e w' hg=>kinds_sc hg (by unfold kNames;rw[List.length_map];exact Nat.le_trans (List.length_filter_le _ _) (by simp))
 have hchk:∀X:List Int,Latin N X→∀a9 c9 W,IC W a9 n X→Calls Tryz.prog 22 #[.agg #[.int .i64 (N:Int),.int .i64 (N:Int),.slice a9 n c9]] W fun e w'=>e = .returned (.int .i64 0)∧Below W.heap.size W w':=fun X LX a9 c9 W hi=>by
  have h9:=rcheck_c (N:Int) (N:Int) a9 n c9 X W hi
  rw[lat_sqE LX] at h9
  exact h9
 have HK1:=Lib.hid (hchk _ A1)
 have HK2:=Lib.hid (hchk _ A2)
 have HK3:=Lib.hid (hchk _ LRD)
 have HT0:=Lib.hid (hcnt _ LC rfl)
 have HT1:=Lib.hid (hcnt _ A1 C1.1)
 have HT2:=Lib.hid (hcnt _ A2 C2.1)
 have HI0:=Lib.hid (hint _ LC rfl)
 have HI1:=Lib.hid (hint _ A1 C1.2)
 have HI2:=Lib.hid (hint _ A2 C2.2)
 have HD0:=Lib.hid (hkin _ LC)
 have HD1:=Lib.hid (hkin _ A1)
 have HG0:=Lib.hid (names_gr N cs)
 have HG1:Hid ((kNames N (isoL (-1) N XR XK XM cs) 7).any isGr=kGrp N cs):=by unfold Hid;rw[names_gr];exact K1
 have hitb:itK N cs N≤100000:=by
  have:=itK_le N cs N (Nat.le_refl _)
  have h5:N*(N*(N*N))≤5*(5*(5*5)):=Nat.mul_le_mul hN5 (Nat.mul_le_mul hN5 (Nat.mul_le_mul hN5 hN5))
  omega
 have HR0:Hid ((reduL (-1) N (isoL (-1) N XR XK XM cs))[0]?.getD 0=0∧(reduL (-1) N (isoL (-1) N XR XK XM cs))[N - 1]?.getD 0=((N - 1:Nat):Int)):=⟨FRD.1 0 (by omega),FRD.1 (N - 1) (by omega)⟩
 generalize kNames N (isoL (-1) N XR XK XM cs) 7=L1 at HD1 HG1
 generalize kNames N cs 7=L0 at HD0 HG0
 generalize reduL (-1) N (isoL (-1) N XR XK XM cs)=XD at HRDL HK3 HR0
 generalize isoL (-1) N XR XK XM cs=X1 at HLI HK1 HT1 HI1 HD1 HBKL HRDL
 generalize conL (-1) N q0 q1 q2 cs=X2 at HLC HK2 HT2 HI2 HAGL
 generalize (transL N cs N []).length=TT at HT0 HT1 HT2
 generalize itK N cs N=II at HI0 HI1 HI2 hitb
 generalize kGrp N cs=GG at HG0 HG1
 have IL:=Lib.hid h
 clear hn A1 A2 C1 C2 K1 IBK CAG LRD FRD hcnt hint hkin hchk LC PR PK PM hq h hR hK hM
 have dT:((TT:Int) != (TT:Int))=false:=by simp
 have dI:((II:Int) != (II:Int))=false:=by simp
 have dN:((N:Int) != (N:Int))=false:=by simp
 replace HA:=Lib.hid HA
 replace P0:=Lib.hid P0
 replace P1:=Lib.hid P1
 replace P2:=Lib.hid P2
 replace P3:=Lib.hid P3
 go_enter Tryz.func18,Tryz.ntmps18
 go_upto_region 1 with fail
 have fsz:((w.alloc (.cells #[.int .i64 (N:Int),.int .i64 (N:Int),.slice a n c] 24)).alloc (.cells #[.slice aR N cR,.slice aK N cK,.slice aM N cM,.int .i64 (q0:Int),.int .i64 (q1:Int),.int .i64 (q2:Int)] 98)).heap.size=w.heap.size+2:=by simp only[World.size_alloc] <;> omega
 have fB:Below w.heap.size w ((w.alloc (.cells #[.int .i64 (N:Int),.int .i64 (N:Int),.slice a n c] 24)).alloc (.cells #[.slice aR N cR,.slice aK N cK,.slice aM N cM,.int .i64 (q0:Int),.int .i64 (q1:Int),.int .i64 (q2:Int)] 98)):=((Below.refl _ _).alloc (Nat.le_refl _) _).alloc (by simp only[World.size_alloc];omega) _
 have fq0:((w.alloc (.cells #[.int .i64 (N:Int),.int .i64 (N:Int),.slice a n c] 24)).alloc (.cells #[.slice aR N cR,.slice aK N cK,.slice aM N cM,.int .i64 (q0:Int),.int .i64 (q1:Int),.int .i64 (q2:Int)] 98)).heap[w.heap.size]?=some (.cells #[.int .i64 (N:Int),.int .i64 (N:Int),.slice a n c] 24 (0,0)):=by have h:=World.alloc_heap_new w (.cells #[.int .i64 (N:Int),.int .i64 (N:Int),.slice a n c] 24);exact (Below.heap_alloc _ _ _ (by simp only[World.size_alloc];omega)).trans (h)
 have fq1:((w.alloc (.cells #[.int .i64 (N:Int),.int .i64 (N:Int),.slice a n c] 24)).alloc (.cells #[.slice aR N cR,.slice aK N cK,.slice aM N cM,.int .i64 (q0:Int),.int .i64 (q1:Int),.int .i64 (q2:Int)] 98)).heap[w.heap.size+1]?=some (.cells #[.slice aR N cR,.slice aK N cK,.slice aM N cM,.int .i64 (q0:Int),.int .i64 (q1:Int),.int .i64 (q2:Int)] 98 (0,0)):=by have h:=World.alloc_heap_new (w.alloc (.cells #[.int .i64 (N:Int),.int .i64 (N:Int),.slice a n c] 24)) (.cells #[.slice aR N cR,.slice aK N cK,.slice aM N cM,.int .i64 (q0:Int),.int .i64 (q1:Int),.int .i64 (q2:Int)] 98);simp only[World.size_alloc] at h;exact h
 generalize ((w.alloc (.cells #[.int .i64 (N:Int),.int .i64 (N:Int),.slice a n c] 24)).alloc (.cells #[.slice aR N cR,.slice aK N cK,.slice aM N cM,.int .i64 (q0:Int),.int .i64 (q1:Int),.int .i64 (q2:Int)] 98))=W0 at fsz fB fq0 fq1 ⊢
 have Q0:=Lib.hid fq0
 have Q1:=Lib.hid fq1
 have HB:=Lib.hid fB
 clear fq0 fq1 fsz fB
 replace IL:=Lib.hid (IL.out.mono HB.out)
 obtain ⟨x0,x1,x2,xl⟩:=c3_of Q0.out
 go_upto_region 3 with (first|(go_at_call 19;(with_reducible refine (lgreat_c _ _ a n c 25 _).mono ?_);rintro _ g1 ⟨rfl,hbg1⟩;have hkg1:Below W0.heap.size W0 g1:=hbg1;obtain ⟨xg10,xg11,xg12,xg1l⟩:=c3_of (keepq hkg1 Q0.out))|(go_at_call 22;(with_reducible refine (HA.out _ (keep_trans HB.out hkg1)).mono ?_);rintro _ g2 ⟨rfl,hbg2⟩;have hkg2:Below W0.heap.size W0 g2:=keep_trans hkg1 hbg2)|fail)
 clear x0 x1 x2 xl xg10 xg11 xg12 xg1l
 have hmv:Below W0.heap.size W0 g2:=hkg2
 replace Q0:=Lib.hid (keepq hmv Q0.out)
 replace Q1:=Lib.hid (keepq hmv Q1.out)
 replace IL:=Lib.hid (IL.out.mono hmv)
 replace HB:=Lib.hid (keep_trans HB.out hmv)
 clear hmv hbg1 hkg1 hbg2 hkg2
 obtain ⟨x0,x1,x2,xl⟩:=c3_of Q0.out
 obtain ⟨y0,y1,y2,y3,y4,y5,yl⟩:=c6_of Q1.out
 go_upto_region 4 with fail
 refine wp_region_S (fun w'=>∃u,w'=over (g2) u) [] [(0,0),(0,1),(0,2),(0,4),(0,5),(0,6),(0,9),(0,10),(0,11),(0,14),(0,15),(1,3),(1,7),(0,8),(1,12),(0,13),(1,16),(0,17),(0,18)] (by kernel_rfl) (by kernel_rfl) (by exact ⟨_,below_over (by repeat (first|assumption|exact Below.refl _ _|refine keep_drew ?_|refine keep_alloc ?_ _|refine keep_trans ?_ (by assumption)))⟩) ?_
 dsimp only[pickOps,nthOp]
 repeat (first|(refine wpS_skip rfl (fun K hK=>?_);go_big_quiet_op;refine hK _ ?_;clear hK K)|(refine wpS_quiet rfl rfl (fun K hK=>?_);go_big_quiet_op;refine hK _ ?_;clear hK K)|(refine wpS_loud ?_;go_wp2_with (first|(go_at_call 86;(with_reducible refine (P0.out _ (keep_trans HB.out (by (repeat (first|assumption|exact Below.refl _ _|refine keep_drew ?_|refine keep_alloc ?_ _|refine keep_trans ?_ (by assumption)))))).mono ?_);rintro _ p0w ⟨rfl,hbp0⟩)|(go_at_call 86;(with_reducible refine (P1.out _ (keep_trans HB.out (by (repeat (first|assumption|exact Below.refl _ _|refine keep_drew ?_|refine keep_alloc ?_ _|refine keep_trans ?_ (by assumption)))))).mono ?_);rintro _ p1w ⟨rfl,hbp1⟩)|(go_at_call 86;(with_reducible refine (P2.out _ (keep_trans HB.out (by (repeat (first|assumption|exact Below.refl _ _|refine keep_drew ?_|refine keep_alloc ?_ _|refine keep_trans ?_ (by assumption)))))).mono ?_);rintro _ p2w ⟨rfl,hbp2⟩)|(go_at_call 86;(with_reducible refine (P3.out _ _ (ic_box6 (keepq (by (repeat (first|assumption|exact Below.refl _ _|refine keep_drew ?_|refine keep_alloc ?_ _|refine keep_trans ?_ (by assumption)))) Q1.out))).mono ?_);rintro _ p3w ⟨rfl,hbp3⟩)|fail);refine ⟨?_,?_⟩;focus (exact ⟨_,below_over (by repeat (first|assumption|exact Below.refl _ _|refine keep_drew ?_|refine keep_alloc ?_ _|refine keep_trans ?_ (by assumption)))⟩)))
 refine wpS_end ?_
 have hkp:Below g2.heap.size g2 p3w:=by (repeat (first|assumption|exact Below.refl _ _|refine keep_drew ?_|refine keep_alloc ?_ _|refine keep_trans ?_ (by assumption)))
 clear x0 x1 x2 xl y0 y1 y2 y3 y4 y5 yl
 have hmv:Below g2.heap.size g2 p3w:=hkp
 replace Q0:=Lib.hid (keepq hmv Q0.out)
 replace Q1:=Lib.hid (keepq hmv Q1.out)
 replace IL:=Lib.hid (IL.out.mono hmv)
 replace HB:=Lib.hid (keep_trans HB.out hmv)
 clear hmv hkp hbp0 hbp1 hbp2 hbp3
 clear P0 P1 P2 P3 HA
 obtain ⟨x0,x1,x2,xl⟩:=c3_of Q0.out
 obtain ⟨y0,y1,y2,y3,y4,y5,yl⟩:=c6_of Q1.out
 go_upto_region 7 with (first|(go_at_call 84;(with_reducible refine (HLI.out _ HB.out).mono ?_);rintro _ u1 ⟨a1,c1,rfl,iax,_,hca1,hbu1⟩)|fail)
 have gsz:(u1.alloc (.cells #[.int .i64 (N:Int),.int .i64 (N:Int),.slice a1 n c1] 24)).heap.size=u1.heap.size+1:=by simp only[World.size_alloc]
 have gB:Below u1.heap.size u1 (u1.alloc (.cells #[.int .i64 (N:Int),.int .i64 (N:Int),.slice a1 n c1] 24)):=(Below.refl _ _).alloc (Nat.le_refl _) _
 have gq0:(u1.alloc (.cells #[.int .i64 (N:Int),.int .i64 (N:Int),.slice a1 n c1] 24)).heap[u1.heap.size]?=some (.cells #[.int .i64 (N:Int),.int .i64 (N:Int),.slice a1 n c1] 24 (0,0)):=by have h:=World.alloc_heap_new u1 (.cells #[.int .i64 (N:Int),.int .i64 (N:Int),.slice a1 n c1] 24);exact h
 generalize (u1.alloc (.cells #[.int .i64 (N:Int),.int .i64 (N:Int),.slice a1 n c1] 24))=V1 at gsz gB gq0 ⊢
 clear x0 x1 x2 xl y0 y1 y2 y3 y4 y5 yl
 have hmv:Below p3w.heap.size p3w V1:=keep_trans hbu1 gB
 replace Q0:=Lib.hid (keepq hmv Q0.out)
 replace Q1:=Lib.hid (keepq hmv Q1.out)
 replace IL:=Lib.hid (IL.out.mono hmv)
 replace HB:=Lib.hid (keep_trans HB.out hmv)
 clear hmv
 have Q6:=Lib.hid gq0
 have IA:=Lib.hid (iax.mono gB)
 clear hbu1 gsz gq0 gB iax
 obtain ⟨x0,x1,x2,xl⟩:=c3_of Q0.out
 obtain ⟨y0,y1,y2,y3,y4,y5,yl⟩:=c6_of Q1.out
 go_upto_region 8 with (first|(go_at_call 85;(with_reducible refine (HLC.out _ HB.out).mono ?_);rintro _ u2 ⟨a2,c2,rfl,ic8x,_,hca2,hbu2⟩)|fail)
 have gsz:(u2.alloc (.cells #[.int .i64 (N:Int),.int .i64 (N:Int),.slice a2 n c2] 24)).heap.size=u2.heap.size+1:=by simp only[World.size_alloc]
 have gB:Below u2.heap.size u2 (u2.alloc (.cells #[.int .i64 (N:Int),.int .i64 (N:Int),.slice a2 n c2] 24)):=(Below.refl _ _).alloc (Nat.le_refl _) _
 have gq0:(u2.alloc (.cells #[.int .i64 (N:Int),.int .i64 (N:Int),.slice a2 n c2] 24)).heap[u2.heap.size]?=some (.cells #[.int .i64 (N:Int),.int .i64 (N:Int),.slice a2 n c2] 24 (0,0)):=by have h:=World.alloc_heap_new u2 (.cells #[.int .i64 (N:Int),.int .i64 (N:Int),.slice a2 n c2] 24);exact h
 generalize (u2.alloc (.cells #[.int .i64 (N:Int),.int .i64 (N:Int),.slice a2 n c2] 24))=V2 at gsz gB gq0 ⊢
 clear x0 x1 x2 xl y0 y1 y2 y3 y4 y5 yl
 have hmv:Below V1.heap.size V1 V2:=keep_trans hbu2 gB
 replace Q0:=Lib.hid (keepq hmv Q0.out)
 replace Q1:=Lib.hid (keepq hmv Q1.out)
 replace Q6:=Lib.hid (keepq hmv Q6.out)
 replace IL:=Lib.hid (IL.out.mono hmv)
 replace IA:=Lib.hid (IA.out.mono hmv)
 replace HB:=Lib.hid (keep_trans HB.out hmv)
 clear hmv
 have Q8:=Lib.hid gq0
 have IC8:=Lib.hid (ic8x.mono gB)
 clear hbu2 gsz gq0 gB ic8x
 clear HLI HLC
 obtain ⟨s0,s1,s2,sl⟩:=c3_of Q6.out
 obtain ⟨t0,t1,t2,tl⟩:=c3_of Q8.out
 go_upto_region 10 with (first|(go_at_call 22;(with_reducible refine (HK1.out _ _ _ IA.out).mono ?_);rintro _ v1 ⟨rfl,hbv1⟩;have hkv1:Below V2.heap.size V2 v1:=hbv1;obtain ⟨sv10,sv11,sv12,sv1l⟩:=c3_of (keepq hkv1 Q6.out);obtain ⟨tv10,tv11,tv12,tv1l⟩:=c3_of (keepq hkv1 Q8.out))|(go_at_call 22;(with_reducible refine (HK2.out _ _ _ (IC8.out.mono hkv1)).mono ?_);rintro _ v2 ⟨rfl,hbv2⟩;have hkv2:Below V2.heap.size V2 v2:=keep_trans hkv1 hbv2;obtain ⟨sv20,sv21,sv22,sv2l⟩:=c3_of (keepq hkv2 Q6.out);obtain ⟨tv20,tv21,tv22,tv2l⟩:=c3_of (keepq hkv2 Q8.out))|fail)
 clear s0 s1 s2 sl t0 t1 t2 tl sv10 sv11 sv12 sv1l tv10 tv11 tv12 tv1l sv20 sv21 sv22 sv2l tv20 tv21 tv22 tv2l
 have hmv:Below V2.heap.size V2 v2:=hkv2
 replace Q0:=Lib.hid (keepq hmv Q0.out)
 replace Q1:=Lib.hid (keepq hmv Q1.out)
 replace Q6:=Lib.hid (keepq hmv Q6.out)
 replace Q8:=Lib.hid (keepq hmv Q8.out)
 replace IL:=Lib.hid (IL.out.mono hmv)
 replace IA:=Lib.hid (IA.out.mono hmv)
 replace IC8:=Lib.hid (IC8.out.mono hmv)
 replace HB:=Lib.hid (keep_trans HB.out hmv)
 clear hmv hbv1 hkv1 hbv2 hkv2 HK1 HK2
 obtain ⟨x0,x1,x2,xl⟩:=c3_of Q0.out
 go_upto_region 14 with (first|(go_at_call 82;(with_reducible refine (HT0.out _ _ _ IL.out).mono ?_);rintro _ m1 ⟨rfl,hbm1⟩;have hkm1:Below v2.heap.size v2 m1:=hbm1;obtain ⟨xm10,xm11,xm12,xm1l⟩:=c3_of (keepq hkm1 Q0.out))|(go_at_call 74;(with_reducible refine (HI0.out _ _ _ (IL.out.mono hkm1)).mono ?_);rintro _ m2 ⟨rfl,hbm2⟩;have hkm2:Below v2.heap.size v2 m2:=keep_trans hkm1 hbm2;obtain ⟨xm20,xm21,xm22,xm2l⟩:=c3_of (keepq hkm2 Q0.out);obtain ⟨sm20,sm21,sm22,sm2l⟩:=c3_of (keepq hkm2 Q6.out))|(go_at_call 72;(with_reducible refine (HD0.out _ _ _ (IL.out.mono hkm2) hcap).mono ?_);rintro _ m3 ⟨aD,kD,cD,rfl,scD,hbm3⟩;have hkm3:Below v2.heap.size v2 m3:=keep_trans hkm2 hbm3;obtain ⟨sm30,sm31,sm32,sm3l⟩:=c3_of (keepq hkm3 Q6.out))|(go_at_call 72;(with_reducible refine (HD1.out _ _ _ (IA.out.mono hkm3) hca1).mono ?_);rintro _ m4 ⟨aE,kE,cE,rfl,scE,hbm4⟩;have hkm4:Below v2.heap.size v2 m4:=keep_trans hkm3 hbm4)|fail)
 have SD:=Lib.hid (scD.mono hbm4)
 have SE:=Lib.hid scE
 clear x0 x1 x2 xl xm10 xm11 xm12 xm1l xm20 xm21 xm22 xm2l sm20 sm21 sm22 sm2l sm30 sm31 sm32 sm3l
 have hmv:Below v2.heap.size v2 m4:=hkm4
 replace Q0:=Lib.hid (keepq hmv Q0.out)
 replace Q1:=Lib.hid (keepq hmv Q1.out)
 replace Q6:=Lib.hid (keepq hmv Q6.out)
 replace Q8:=Lib.hid (keepq hmv Q8.out)
 replace IL:=Lib.hid (IL.out.mono hmv)
 replace IA:=Lib.hid (IA.out.mono hmv)
 replace IC8:=Lib.hid (IC8.out.mono hmv)
 replace HB:=Lib.hid (keep_trans HB.out hmv)
 clear hmv hbm1 hkm1 hbm2 hkm2 hbm3 hkm3 hbm4 hkm4 scD scE
 have HH0:=Lib.hid (fun W (hb:Below m4.heap.size m4 W)=>lhas_c aD kD cD L0 W (SD.out.mono hb))
 have HH1:=Lib.hid (fun W (hb:Below m4.heap.size m4 W)=>lhas_c aE kE cE L1 W (SE.out.mono hb))
 rw[HG0.out] at HH0
 rw[HG1.out] at HH1
 have dG:(GG != GG)=false:=by cases GG <;> rfl
 go_upto_region 16 with (first|(go_at_call 73;(with_reducible refine (HH0.out _ (Below.refl _ _)).mono ?_);rintro _ m5 ⟨rfl,hbm5⟩)|(go_at_call 73;(with_reducible refine (HH1.out _ hbm5).mono ?_);rintro _ m6 ⟨rfl,hbm6⟩)|fail)
 have hmv:Below m4.heap.size m4 m6:=keep_trans hbm5 hbm6
 replace Q0:=Lib.hid (keepq hmv Q0.out)
 replace Q1:=Lib.hid (keepq hmv Q1.out)
 replace Q6:=Lib.hid (keepq hmv Q6.out)
 replace Q8:=Lib.hid (keepq hmv Q8.out)
 replace IL:=Lib.hid (IL.out.mono hmv)
 replace IA:=Lib.hid (IA.out.mono hmv)
 replace IC8:=Lib.hid (IC8.out.mono hmv)
 replace HB:=Lib.hid (keep_trans HB.out hmv)
 clear hmv hbm5 hbm6 HH0 HH1 dG
 obtain ⟨s0,s1,s2,sl⟩:=c3_of Q6.out
 obtain ⟨t0,t1,t2,tl⟩:=c3_of Q8.out
 go_upto_region 17 with fail
 have hq9:=World.alloc_heap_new m6 (.cells #[.int .i64 (N:Int),.int .i64 (N:Int),.slice a1 n c1,.int .i64 (N:Int),.int .i64 (N:Int),.slice a2 n c2] 24)
 have hb9:Below m6.heap.size m6 (m6.alloc (.cells #[.int .i64 (N:Int),.int .i64 (N:Int),.slice a1 n c1,.int .i64 (N:Int),.int .i64 (N:Int),.slice a2 n c2] 24)):=keep_alloc (Below.refl _ _) _
 generalize (m6.alloc (.cells #[.int .i64 (N:Int),.int .i64 (N:Int),.slice a1 n c1,.int .i64 (N:Int),.int .i64 (N:Int),.slice a2 n c2] 24))=V3 at hq9 hb9 ⊢
 clear s0 s1 s2 sl t0 t1 t2 tl
 have hmv:Below m6.heap.size m6 V3:=hb9
 replace Q0:=Lib.hid (keepq hmv Q0.out)
 replace Q1:=Lib.hid (keepq hmv Q1.out)
 replace Q6:=Lib.hid (keepq hmv Q6.out)
 replace Q8:=Lib.hid (keepq hmv Q8.out)
 replace IL:=Lib.hid (IL.out.mono hmv)
 replace IA:=Lib.hid (IA.out.mono hmv)
 replace IC8:=Lib.hid (IC8.out.mono hmv)
 replace HB:=Lib.hid (keep_trans HB.out hmv)
 clear hmv hb9
 have HQ9:=Lib.hid hq9
 clear hq9
 go_wp2_with fail
 go_loopw [19,20,21,22,23,154] (fun _ _ _ _ _ s154 wr=>∃k:Nat,k≤2∧s154 = .int .i64 (k:Int)∧Hid (Below V3.heap.size V3 wr)) (fun _ _ _ _ _ s154 _=>2 - (intOf s154).toNat)
 case atStart=>exact ⟨0,by omega,rfl,Below.refl _ _⟩
 case round =>
  obtain ⟨k,hk,rfl,hbr⟩:=hrel
  have hq:=keepq hbr.out HQ9.out
  have hqz:=q_lt hq
  by_cases e0:k=0
  ·subst e0
   have g0:=q_cell hq 0
   have g1:=q_cell hq 1
   have g2:=q_cell hq 2
   go_upto_region 19 with fail
   have vsz:(wr.alloc (.cells #[.int .i64 (N:Int),.int .i64 (N:Int),.slice a1 n c1] 24)).heap.size=wr.heap.size+1:=by simp only[World.size_alloc]
   have vB:Below wr.heap.size wr (wr.alloc (.cells #[.int .i64 (N:Int),.int .i64 (N:Int),.slice a1 n c1] 24)):=(Below.refl _ _).alloc (Nat.le_refl _) _
   have vq0:(wr.alloc (.cells #[.int .i64 (N:Int),.int .i64 (N:Int),.slice a1 n c1] 24)).heap[wr.heap.size]?=some (.cells #[.int .i64 (N:Int),.int .i64 (N:Int),.slice a1 n c1] 24 (0,0)):=by have h:=World.alloc_heap_new wr (.cells #[.int .i64 (N:Int),.int .i64 (N:Int),.slice a1 n c1] 24);exact h
   generalize (wr.alloc (.cells #[.int .i64 (N:Int),.int .i64 (N:Int),.slice a1 n c1] 24))=V at vsz vB vq0 ⊢
   have QV:=Lib.hid vq0
   have hkV:=keep_trans hbr.out vB
   have HKV:=Lib.hid hkV
   obtain ⟨x0,x1,x2,xl⟩:=c3_of vq0
   clear vq0 vB vsz g0 g1 g2 hkV
   go_wp2_with (first|(go_at_call 82;(with_reducible refine (HT1.out _ _ _ (IA.out.mono HKV.out)).mono ?_);rintro _ o1 ⟨rfl,hbo1⟩;obtain ⟨xo10,xo11,xo12,xo1l⟩:=c3_of (keepq hbo1 QV.out))|(go_at_call 74;(with_reducible refine (HI1.out _ _ _ (IA.out.mono (keep_trans HKV.out hbo1))).mono ?_);rintro _ o2 ⟨rfl,hbo2⟩)|fail)
   go_roundw
   case rel=>exact ⟨1,by omega,by go_num,keep_trans HKV.out (keep_trans hbo1 hbo2)⟩
   case measure=>simp[intOf]
  by_cases e1:k=1
  ·subst e1
   have g0:=q_cell hq 3
   have g1:=q_cell hq 4
   have g2:=q_cell hq 5
   go_upto_region 19 with fail
   have vsz:(wr.alloc (.cells #[.int .i64 (N:Int),.int .i64 (N:Int),.slice a2 n c2] 24)).heap.size=wr.heap.size+1:=by simp only[World.size_alloc]
   have vB:Below wr.heap.size wr (wr.alloc (.cells #[.int .i64 (N:Int),.int .i64 (N:Int),.slice a2 n c2] 24)):=(Below.refl _ _).alloc (Nat.le_refl _) _
   have vq0:(wr.alloc (.cells #[.int .i64 (N:Int),.int .i64 (N:Int),.slice a2 n c2] 24)).heap[wr.heap.size]?=some (.cells #[.int .i64 (N:Int),.int .i64 (N:Int),.slice a2 n c2] 24 (0,0)):=by have h:=World.alloc_heap_new wr (.cells #[.int .i64 (N:Int),.int .i64 (N:Int),.slice a2 n c2] 24);exact h
   generalize (wr.alloc (.cells #[.int .i64 (N:Int),.int .i64 (N:Int),.slice a2 n c2] 24))=V at vsz vB vq0 ⊢
   have QV:=Lib.hid vq0
   have hkV:=keep_trans hbr.out vB
   have HKV:=Lib.hid hkV
   obtain ⟨x0,x1,x2,xl⟩:=c3_of vq0
   clear vq0 vB vsz g0 g1 g2 hkV
   go_wp2_with (first|(go_at_call 82;(with_reducible refine (HT2.out _ _ _ (IC8.out.mono HKV.out)).mono ?_);rintro _ o1 ⟨rfl,hbo1⟩;obtain ⟨xo10,xo11,xo12,xo1l⟩:=c3_of (keepq hbo1 QV.out))|(go_at_call 74;(with_reducible refine (HI2.out _ _ _ (IC8.out.mono (keep_trans HKV.out hbo1))).mono ?_);rintro _ o2 ⟨rfl,hbo2⟩)|fail)
   go_roundw
   case rel=>exact ⟨2,by omega,by go_num,keep_trans HKV.out (keep_trans hbo1 hbo2)⟩
   case measure=>simp[intOf]
  have hk2:¬(k:Int)<2:=by omega
  clear hq hqz
  have hmv:Below V3.heap.size V3 wr:=hbr.out
  replace Q0:=Lib.hid (keepq hmv Q0.out)
  replace Q1:=Lib.hid (keepq hmv Q1.out)
  replace Q6:=Lib.hid (keepq hmv Q6.out)
  replace Q8:=Lib.hid (keepq hmv Q8.out)
  replace IL:=Lib.hid (IL.out.mono hmv)
  replace IA:=Lib.hid (IA.out.mono hmv)
  replace IC8:=Lib.hid (IC8.out.mono hmv)
  replace HB:=Lib.hid (keep_trans HB.out hmv)
  clear hmv
  clear HT0 HT1 HT2 HI0 HI1 HI2 dT dI HQ9
  obtain ⟨s0,s1,s2,sl⟩:=c3_of Q6.out
  obtain ⟨y0,y1,y2,y3,y4,y5,yl⟩:=c6_of Q1.out
  go_upto_region 24 with fail
  go_cut [24,25] from 185 to 198 (fun s24 s25 wx=>∃b a9 c9,s24 = .pointer (some ⟨b,0,none⟩)∧s25 = .int .i64 0∧Hid (wx.heap[b]?=some (.cells #[.int .i64 (N:Int),.int .i64 (N:Int),.slice a9 n c9] 24 (0,0)))∧Hid (IC wx a9 n cs)∧Hid (Below wr.heap.size wr wx))
  case first J9 K9 hJ9 hK9 =>
   refine wp_region_tree (fun w'=>∃u,w'=over (wr) u) [16] (.fork [0,1,2,4,5,7,8] 3 14 (.fork [] 6 14 (.fork [] 9 14 (.fork [] 10 14 (.leaf [(0,11),(0,12),(0,13),(1,14),(1,15),(2,16)]) (.leaf [(1,10),(0,11),(0,12),(0,13),(1,15),(2,16)])) (.leaf [(1,9),(1,10),(0,11),(0,12),(0,13),(1,15),(2,16)])) (.leaf [(1,6),(1,9),(1,10),(0,11),(0,12),(0,13),(1,15),(2,16)])) (.leaf [(1,3),(1,6),(1,9),(1,10),(0,11),(0,12),(0,13),(1,15),(2,16)])) (by kernel_rfl) (by kernel_rfl) (by exact ⟨_,below_over (by repeat (first|assumption|exact Below.refl _ _|refine keep_drew ?_|refine keep_alloc ?_ _|refine keep_trans ?_ (by assumption)))⟩) ?_
   all_goals try (refine ⟨?_,?_⟩ <;> dsimp only[List.map,List.cons_append,List.nil_append,pickOps,nthOp])
   all_goals repeat (first|(refine wpS_skip rfl (fun K hK=>?_);go_big_quiet_op;refine hK _ ?_;clear hK K)|(refine wpS_quiet rfl rfl (fun K hK=>?_);go_big_quiet_op;refine hK _ ?_;clear hK K)|(refine wpS_loud ?_;go_wp2_with (first|(go_at_call 90;(with_reducible refine (HIV0.out _ (keep_trans HB.out (by (repeat (first|assumption|exact Below.refl _ _|refine keep_drew ?_|refine keep_alloc ?_ _|refine keep_trans ?_ (by assumption)))))).mono ?_);rintro _ w1 ⟨g1,rfl,og1,hbi1⟩;have zs1:wr.heap.size≤w1.heap.size:=(show Below wr.heap.size wr w1 by (repeat (first|assumption|exact Below.refl _ _|refine keep_drew ?_|refine keep_alloc ?_ _|refine keep_trans ?_ (by assumption)))).size)|(go_at_call 90;(with_reducible refine (HIV1.out _ (keep_trans HB.out (by (repeat (first|assumption|exact Below.refl _ _|refine keep_drew ?_|refine keep_alloc ?_ _|refine keep_trans ?_ (by assumption)))))).mono ?_);rintro _ w2 ⟨g2,rfl,og2,hbi2⟩;have zs2:wr.heap.size≤w2.heap.size:=(show Below wr.heap.size wr w2 by (repeat (first|assumption|exact Below.refl _ _|refine keep_drew ?_|refine keep_alloc ?_ _|refine keep_trans ?_ (by assumption)))).size)|(go_at_call 90;(with_reducible refine (HIV2.out _ (keep_trans HB.out (by (repeat (first|assumption|exact Below.refl _ _|refine keep_drew ?_|refine keep_alloc ?_ _|refine keep_trans ?_ (by assumption)))))).mono ?_);rintro _ w3 ⟨g3,rfl,og3,hbi3⟩;have zs3:wr.heap.size≤w3.heap.size:=(show Below wr.heap.size wr w3 by (repeat (first|assumption|exact Below.refl _ _|refine keep_drew ?_|refine keep_alloc ?_ _|refine keep_trans ?_ (by assumption)))).size)|(go_at_call 84;(with_reducible refine (HBKL.out _ _ _ _ _ _ _ _ _ (IA.out.mono (by (repeat (first|assumption|exact Below.refl _ _|refine keep_drew ?_|refine keep_alloc ?_ _|refine keep_trans ?_ (by assumption))))) ((og1.keep (by (repeat (first|assumption|exact Below.refl _ _|refine keep_drew ?_|refine keep_alloc ?_ _|refine keep_trans ?_ (by assumption))))).ic (by omega)) ((og2.keep (by (repeat (first|assumption|exact Below.refl _ _|refine keep_drew ?_|refine keep_alloc ?_ _|refine keep_trans ?_ (by assumption))))).ic (by omega)) ((og3.keep (by (repeat (first|assumption|exact Below.refl _ _|refine keep_drew ?_|refine keep_alloc ?_ _|refine keep_trans ?_ (by assumption))))).ic (by omega))).mono ?_);rintro _ w4 ⟨a9,c9,rfl,i9,f9,hc9,hb9⟩;have hk4:Below wr.heap.size wr w4:=(by (repeat (first|assumption|exact Below.refl _ _|refine keep_drew ?_|refine keep_alloc ?_ _|refine keep_trans ?_ (by assumption))));(try (have gx:=(show w4.heap[wr.heap.size]?=some (.cells #[.int .i64 0,.int .i64 0,.slice none 0 0] 24 (0,0)) from keepq (show Below (wr.alloc (.cells #[.int .i64 0,.int .i64 0,.slice none 0 0] 24)).heap.size (wr.alloc (.cells #[.int .i64 0,.int .i64 0,.slice none 0 0] 24)) w4 by first|(with_reducible exact keep_trans (keep_trans (keep_trans hbi1 hbi2) hbi3) hb9)|(with_reducible exact keep_trans (keep_drew (Below.refl _ _)) (keep_trans (keep_trans (keep_trans hbi1 hbi2) hbi3) hb9))) (World.alloc_heap_new wr (.cells #[.int .i64 0,.int .i64 0,.slice none 0 0] 24)));obtain ⟨gc0,gc1,gc2,gcl⟩:=c3_of gx;obtain ⟨gf0,gf1,gf2⟩:=f3_of gx));(try (have gx:=(show w4.heap[wr.drew.heap.size]?=some (.cells #[.int .i64 0,.int .i64 0,.slice none 0 0] 24 (0,0)) from keepq (show Below (wr.drew.alloc (.cells #[.int .i64 0,.int .i64 0,.slice none 0 0] 24)).heap.size (wr.drew.alloc (.cells #[.int .i64 0,.int .i64 0,.slice none 0 0] 24)) w4 by first|(with_reducible exact keep_trans (keep_trans (keep_trans hbi1 hbi2) hbi3) hb9)|(with_reducible exact keep_trans (keep_drew (Below.refl _ _)) (keep_trans (keep_trans (keep_trans hbi1 hbi2) hbi3) hb9))) (World.alloc_heap_new wr.drew (.cells #[.int .i64 0,.int .i64 0,.slice none 0 0] 24)));obtain ⟨gc0,gc1,gc2,gcl⟩:=c3_of gx;obtain ⟨gf0,gf1,gf2⟩:=f3_of gx));(try (have gx:=(show w4.heap[w1.heap.size]?=some (.cells #[.int .i64 0,.int .i64 0,.slice none 0 0] 24 (0,0)) from keepq (show Below (w1.alloc (.cells #[.int .i64 0,.int .i64 0,.slice none 0 0] 24)).heap.size (w1.alloc (.cells #[.int .i64 0,.int .i64 0,.slice none 0 0] 24)) w4 by first|(with_reducible exact keep_trans (keep_trans hbi2 hbi3) hb9)|(with_reducible exact keep_trans (keep_drew (Below.refl _ _)) (keep_trans (keep_trans hbi2 hbi3) hb9))) (World.alloc_heap_new w1 (.cells #[.int .i64 0,.int .i64 0,.slice none 0 0] 24)));obtain ⟨gc0,gc1,gc2,gcl⟩:=c3_of gx;obtain ⟨gf0,gf1,gf2⟩:=f3_of gx));(try (have gx:=(show w4.heap[w2.heap.size]?=some (.cells #[.int .i64 0,.int .i64 0,.slice none 0 0] 24 (0,0)) from keepq (show Below (w2.alloc (.cells #[.int .i64 0,.int .i64 0,.slice none 0 0] 24)).heap.size (w2.alloc (.cells #[.int .i64 0,.int .i64 0,.slice none 0 0] 24)) w4 by first|(with_reducible exact keep_trans hbi3 hb9)|(with_reducible exact keep_trans (keep_drew (Below.refl _ _)) (keep_trans hbi3 hb9))) (World.alloc_heap_new w2 (.cells #[.int .i64 0,.int .i64 0,.slice none 0 0] 24)));obtain ⟨gc0,gc1,gc2,gcl⟩:=c3_of gx;obtain ⟨gf0,gf1,gf2⟩:=f3_of gx));(try (have gx:=(show w4.heap[w3.heap.size]?=some (.cells #[.int .i64 0,.int .i64 0,.slice none 0 0] 24 (0,0)) from keepq (show Below (w3.alloc (.cells #[.int .i64 0,.int .i64 0,.slice none 0 0] 24)).heap.size (w3.alloc (.cells #[.int .i64 0,.int .i64 0,.slice none 0 0] 24)) w4 by first|(with_reducible exact hb9)|(with_reducible exact keep_trans (keep_drew (Below.refl _ _)) (hb9))) (World.alloc_heap_new w3 (.cells #[.int .i64 0,.int .i64 0,.slice none 0 0] 24)));obtain ⟨gc0,gc1,gc2,gcl⟩:=c3_of gx;obtain ⟨gf0,gf1,gf2⟩:=f3_of gx)))|fail);refine ⟨?_,?_⟩;focus (exact ⟨_,below_over (by repeat (first|assumption|exact Below.refl _ _|refine keep_drew ?_|refine keep_alloc ?_ _|refine keep_set ?_ (by first|omega|(dsimp only;omega)) _|refine keep_trans ?_ (by assumption)))⟩)))
   all_goals try refine wpTr_end ?_
   all_goals try (refine ⟨?_,?_⟩ <;> dsimp only[List.map,List.cons_append,List.nil_append,pickOps,nthOp])
   all_goals repeat (first|(refine wpS_skip rfl (fun K hK=>?_);go_big_quiet_op;refine hK _ ?_;clear hK K)|(refine wpS_quiet rfl rfl (fun K hK=>?_);go_big_quiet_op;refine hK _ ?_;clear hK K)|(refine wpS_loud ?_;go_wp2_with (first|(go_at_call 90;(with_reducible refine (HIV0.out _ (keep_trans HB.out (by (repeat (first|assumption|exact Below.refl _ _|refine keep_drew ?_|refine keep_alloc ?_ _|refine keep_trans ?_ (by assumption)))))).mono ?_);rintro _ w1 ⟨g1,rfl,og1,hbi1⟩;have zs1:wr.heap.size≤w1.heap.size:=(show Below wr.heap.size wr w1 by (repeat (first|assumption|exact Below.refl _ _|refine keep_drew ?_|refine keep_alloc ?_ _|refine keep_trans ?_ (by assumption)))).size)|(go_at_call 90;(with_reducible refine (HIV1.out _ (keep_trans HB.out (by (repeat (first|assumption|exact Below.refl _ _|refine keep_drew ?_|refine keep_alloc ?_ _|refine keep_trans ?_ (by assumption)))))).mono ?_);rintro _ w2 ⟨g2,rfl,og2,hbi2⟩;have zs2:wr.heap.size≤w2.heap.size:=(show Below wr.heap.size wr w2 by (repeat (first|assumption|exact Below.refl _ _|refine keep_drew ?_|refine keep_alloc ?_ _|refine keep_trans ?_ (by assumption)))).size)|(go_at_call 90;(with_reducible refine (HIV2.out _ (keep_trans HB.out (by (repeat (first|assumption|exact Below.refl _ _|refine keep_drew ?_|refine keep_alloc ?_ _|refine keep_trans ?_ (by assumption)))))).mono ?_);rintro _ w3 ⟨g3,rfl,og3,hbi3⟩;have zs3:wr.heap.size≤w3.heap.size:=(show Below wr.heap.size wr w3 by (repeat (first|assumption|exact Below.refl _ _|refine keep_drew ?_|refine keep_alloc ?_ _|refine keep_trans ?_ (by assumption)))).size)|(go_at_call 84;(with_reducible refine (HBKL.out _ _ _ _ _ _ _ _ _ (IA.out.mono (by (repeat (first|assumption|exact Below.refl _ _|refine keep_drew ?_|refine keep_alloc ?_ _|refine keep_trans ?_ (by assumption))))) ((og1.keep (by (repeat (first|assumption|exact Below.refl _ _|refine keep_drew ?_|refine keep_alloc ?_ _|refine keep_trans ?_ (by assumption))))).ic (by omega)) ((og2.keep (by (repeat (first|assumption|exact Below.refl _ _|refine keep_drew ?_|refine keep_alloc ?_ _|refine keep_trans ?_ (by assumption))))).ic (by omega)) ((og3.keep (by (repeat (first|assumption|exact Below.refl _ _|refine keep_drew ?_|refine keep_alloc ?_ _|refine keep_trans ?_ (by assumption))))).ic (by omega))).mono ?_);rintro _ w4 ⟨a9,c9,rfl,i9,f9,hc9,hb9⟩;have hk4:Below wr.heap.size wr w4:=(by (repeat (first|assumption|exact Below.refl _ _|refine keep_drew ?_|refine keep_alloc ?_ _|refine keep_trans ?_ (by assumption))));(try (have gx:=(show w4.heap[wr.heap.size]?=some (.cells #[.int .i64 0,.int .i64 0,.slice none 0 0] 24 (0,0)) from keepq (show Below (wr.alloc (.cells #[.int .i64 0,.int .i64 0,.slice none 0 0] 24)).heap.size (wr.alloc (.cells #[.int .i64 0,.int .i64 0,.slice none 0 0] 24)) w4 by first|(with_reducible exact keep_trans (keep_trans (keep_trans hbi1 hbi2) hbi3) hb9)|(with_reducible exact keep_trans (keep_drew (Below.refl _ _)) (keep_trans (keep_trans (keep_trans hbi1 hbi2) hbi3) hb9))) (World.alloc_heap_new wr (.cells #[.int .i64 0,.int .i64 0,.slice none 0 0] 24)));obtain ⟨gc0,gc1,gc2,gcl⟩:=c3_of gx;obtain ⟨gf0,gf1,gf2⟩:=f3_of gx));(try (have gx:=(show w4.heap[wr.drew.heap.size]?=some (.cells #[.int .i64 0,.int .i64 0,.slice none 0 0] 24 (0,0)) from keepq (show Below (wr.drew.alloc (.cells #[.int .i64 0,.int .i64 0,.slice none 0 0] 24)).heap.size (wr.drew.alloc (.cells #[.int .i64 0,.int .i64 0,.slice none 0 0] 24)) w4 by first|(with_reducible exact keep_trans (keep_trans (keep_trans hbi1 hbi2) hbi3) hb9)|(with_reducible exact keep_trans (keep_drew (Below.refl _ _)) (keep_trans (keep_trans (keep_trans hbi1 hbi2) hbi3) hb9))) (World.alloc_heap_new wr.drew (.cells #[.int .i64 0,.int .i64 0,.slice none 0 0] 24)));obtain ⟨gc0,gc1,gc2,gcl⟩:=c3_of gx;obtain ⟨gf0,gf1,gf2⟩:=f3_of gx));(try (have gx:=(show w4.heap[w1.heap.size]?=some (.cells #[.int .i64 0,.int .i64 0,.slice none 0 0] 24 (0,0)) from keepq (show Below (w1.alloc (.cells #[.int .i64 0,.int .i64 0,.slice none 0 0] 24)).heap.size (w1.alloc (.cells #[.int .i64 0,.int .i64 0,.slice none 0 0] 24)) w4 by first|(with_reducible exact keep_trans (keep_trans hbi2 hbi3) hb9)|(with_reducible exact keep_trans (keep_drew (Below.refl _ _)) (keep_trans (keep_trans hbi2 hbi3) hb9))) (World.alloc_heap_new w1 (.cells #[.int .i64 0,.int .i64 0,.slice none 0 0] 24)));obtain ⟨gc0,gc1,gc2,gcl⟩:=c3_of gx;obtain ⟨gf0,gf1,gf2⟩:=f3_of gx));(try (have gx:=(show w4.heap[w2.heap.size]?=some (.cells #[.int .i64 0,.int .i64 0,.slice none 0 0] 24 (0,0)) from keepq (show Below (w2.alloc (.cells #[.int .i64 0,.int .i64 0,.slice none 0 0] 24)).heap.size (w2.alloc (.cells #[.int .i64 0,.int .i64 0,.slice none 0 0] 24)) w4 by first|(with_reducible exact keep_trans hbi3 hb9)|(with_reducible exact keep_trans (keep_drew (Below.refl _ _)) (keep_trans hbi3 hb9))) (World.alloc_heap_new w2 (.cells #[.int .i64 0,.int .i64 0,.slice none 0 0] 24)));obtain ⟨gc0,gc1,gc2,gcl⟩:=c3_of gx;obtain ⟨gf0,gf1,gf2⟩:=f3_of gx));(try (have gx:=(show w4.heap[w3.heap.size]?=some (.cells #[.int .i64 0,.int .i64 0,.slice none 0 0] 24 (0,0)) from keepq (show Below (w3.alloc (.cells #[.int .i64 0,.int .i64 0,.slice none 0 0] 24)).heap.size (w3.alloc (.cells #[.int .i64 0,.int .i64 0,.slice none 0 0] 24)) w4 by first|(with_reducible exact hb9)|(with_reducible exact keep_trans (keep_drew (Below.refl _ _)) (hb9))) (World.alloc_heap_new w3 (.cells #[.int .i64 0,.int .i64 0,.slice none 0 0] 24)));obtain ⟨gc0,gc1,gc2,gcl⟩:=c3_of gx;obtain ⟨gf0,gf1,gf2⟩:=f3_of gx)))|fail);refine ⟨?_,?_⟩;focus (exact ⟨_,below_over (by repeat (first|assumption|exact Below.refl _ _|refine keep_drew ?_|refine keep_alloc ?_ _|refine keep_set ?_ (by first|omega|(dsimp only;omega)) _|refine keep_trans ?_ (by assumption)))⟩)))
   all_goals try refine wpTr_end ?_
   all_goals try (refine ⟨?_,?_⟩ <;> dsimp only[List.map,List.cons_append,List.nil_append,pickOps,nthOp])
   all_goals repeat (first|(refine wpS_skip rfl (fun K hK=>?_);go_big_quiet_op;refine hK _ ?_;clear hK K)|(refine wpS_quiet rfl rfl (fun K hK=>?_);go_big_quiet_op;refine hK _ ?_;clear hK K)|(refine wpS_loud ?_;go_wp2_with (first|(go_at_call 90;(with_reducible refine (HIV0.out _ (keep_trans HB.out (by (repeat (first|assumption|exact Below.refl _ _|refine keep_drew ?_|refine keep_alloc ?_ _|refine keep_trans ?_ (by assumption)))))).mono ?_);rintro _ w1 ⟨g1,rfl,og1,hbi1⟩;have zs1:wr.heap.size≤w1.heap.size:=(show Below wr.heap.size wr w1 by (repeat (first|assumption|exact Below.refl _ _|refine keep_drew ?_|refine keep_alloc ?_ _|refine keep_trans ?_ (by assumption)))).size)|(go_at_call 90;(with_reducible refine (HIV1.out _ (keep_trans HB.out (by (repeat (first|assumption|exact Below.refl _ _|refine keep_drew ?_|refine keep_alloc ?_ _|refine keep_trans ?_ (by assumption)))))).mono ?_);rintro _ w2 ⟨g2,rfl,og2,hbi2⟩;have zs2:wr.heap.size≤w2.heap.size:=(show Below wr.heap.size wr w2 by (repeat (first|assumption|exact Below.refl _ _|refine keep_drew ?_|refine keep_alloc ?_ _|refine keep_trans ?_ (by assumption)))).size)|(go_at_call 90;(with_reducible refine (HIV2.out _ (keep_trans HB.out (by (repeat (first|assumption|exact Below.refl _ _|refine keep_drew ?_|refine keep_alloc ?_ _|refine keep_trans ?_ (by assumption)))))).mono ?_);rintro _ w3 ⟨g3,rfl,og3,hbi3⟩;have zs3:wr.heap.size≤w3.heap.size:=(show Below wr.heap.size wr w3 by (repeat (first|assumption|exact Below.refl _ _|refine keep_drew ?_|refine keep_alloc ?_ _|refine keep_trans ?_ (by assumption)))).size)|(go_at_call 84;(with_reducible refine (HBKL.out _ _ _ _ _ _ _ _ _ (IA.out.mono (by (repeat (first|assumption|exact Below.refl _ _|refine keep_drew ?_|refine keep_alloc ?_ _|refine keep_trans ?_ (by assumption))))) ((og1.keep (by (repeat (first|assumption|exact Below.refl _ _|refine keep_drew ?_|refine keep_alloc ?_ _|refine keep_trans ?_ (by assumption))))).ic (by omega)) ((og2.keep (by (repeat (first|assumption|exact Below.refl _ _|refine keep_drew ?_|refine keep_alloc ?_ _|refine keep_trans ?_ (by assumption))))).ic (by omega)) ((og3.keep (by (repeat (first|assumption|exact Below.refl _ _|refine keep_drew ?_|refine keep_alloc ?_ _|refine keep_trans ?_ (by assumption))))).ic (by omega))).mono ?_);rintro _ w4 ⟨a9,c9,rfl,i9,f9,hc9,hb9⟩;have hk4:Below wr.heap.size wr w4:=(by (repeat (first|assumption|exact Below.refl _ _|refine keep_drew ?_|refine keep_alloc ?_ _|refine keep_trans ?_ (by assumption))));(try (have gx:=(show w4.heap[wr.heap.size]?=some (.cells #[.int .i64 0,.int .i64 0,.slice none 0 0] 24 (0,0)) from keepq (show Below (wr.alloc (.cells #[.int .i64 0,.int .i64 0,.slice none 0 0] 24)).heap.size (wr.alloc (.cells #[.int .i64 0,.int .i64 0,.slice none 0 0] 24)) w4 by first|(with_reducible exact keep_trans (keep_trans (keep_trans hbi1 hbi2) hbi3) hb9)|(with_reducible exact keep_trans (keep_drew (Below.refl _ _)) (keep_trans (keep_trans (keep_trans hbi1 hbi2) hbi3) hb9))) (World.alloc_heap_new wr (.cells #[.int .i64 0,.int .i64 0,.slice none 0 0] 24)));obtain ⟨gc0,gc1,gc2,gcl⟩:=c3_of gx;obtain ⟨gf0,gf1,gf2⟩:=f3_of gx));(try (have gx:=(show w4.heap[wr.drew.heap.size]?=some (.cells #[.int .i64 0,.int .i64 0,.slice none 0 0] 24 (0,0)) from keepq (show Below (wr.drew.alloc (.cells #[.int .i64 0,.int .i64 0,.slice none 0 0] 24)).heap.size (wr.drew.alloc (.cells #[.int .i64 0,.int .i64 0,.slice none 0 0] 24)) w4 by first|(with_reducible exact keep_trans (keep_trans (keep_trans hbi1 hbi2) hbi3) hb9)|(with_reducible exact keep_trans (keep_drew (Below.refl _ _)) (keep_trans (keep_trans (keep_trans hbi1 hbi2) hbi3) hb9))) (World.alloc_heap_new wr.drew (.cells #[.int .i64 0,.int .i64 0,.slice none 0 0] 24)));obtain ⟨gc0,gc1,gc2,gcl⟩:=c3_of gx;obtain ⟨gf0,gf1,gf2⟩:=f3_of gx));(try (have gx:=(show w4.heap[w1.heap.size]?=some (.cells #[.int .i64 0,.int .i64 0,.slice none 0 0] 24 (0,0)) from keepq (show Below (w1.alloc (.cells #[.int .i64 0,.int .i64 0,.slice none 0 0] 24)).heap.size (w1.alloc (.cells #[.int .i64 0,.int .i64 0,.slice none 0 0] 24)) w4 by first|(with_reducible exact keep_trans (keep_trans hbi2 hbi3) hb9)|(with_reducible exact keep_trans (keep_drew (Below.refl _ _)) (keep_trans (keep_trans hbi2 hbi3) hb9))) (World.alloc_heap_new w1 (.cells #[.int .i64 0,.int .i64 0,.slice none 0 0] 24)));obtain ⟨gc0,gc1,gc2,gcl⟩:=c3_of gx;obtain ⟨gf0,gf1,gf2⟩:=f3_of gx));(try (have gx:=(show w4.heap[w2.heap.size]?=some (.cells #[.int .i64 0,.int .i64 0,.slice none 0 0] 24 (0,0)) from keepq (show Below (w2.alloc (.cells #[.int .i64 0,.int .i64 0,.slice none 0 0] 24)).heap.size (w2.alloc (.cells #[.int .i64 0,.int .i64 0,.slice none 0 0] 24)) w4 by first|(with_reducible exact keep_trans hbi3 hb9)|(with_reducible exact keep_trans (keep_drew (Below.refl _ _)) (keep_trans hbi3 hb9))) (World.alloc_heap_new w2 (.cells #[.int .i64 0,.int .i64 0,.slice none 0 0] 24)));obtain ⟨gc0,gc1,gc2,gcl⟩:=c3_of gx;obtain ⟨gf0,gf1,gf2⟩:=f3_of gx));(try (have gx:=(show w4.heap[w3.heap.size]?=some (.cells #[.int .i64 0,.int .i64 0,.slice none 0 0] 24 (0,0)) from keepq (show Below (w3.alloc (.cells #[.int .i64 0,.int .i64 0,.slice none 0 0] 24)).heap.size (w3.alloc (.cells #[.int .i64 0,.int .i64 0,.slice none 0 0] 24)) w4 by first|(with_reducible exact hb9)|(with_reducible exact keep_trans (keep_drew (Below.refl _ _)) (hb9))) (World.alloc_heap_new w3 (.cells #[.int .i64 0,.int .i64 0,.slice none 0 0] 24)));obtain ⟨gc0,gc1,gc2,gcl⟩:=c3_of gx;obtain ⟨gf0,gf1,gf2⟩:=f3_of gx)))|fail);refine ⟨?_,?_⟩;focus (exact ⟨_,below_over (by repeat (first|assumption|exact Below.refl _ _|refine keep_drew ?_|refine keep_alloc ?_ _|refine keep_set ?_ (by first|omega|(dsimp only;omega)) _|refine keep_trans ?_ (by assumption)))⟩)))
   all_goals try refine wpTr_end ?_
   all_goals try (refine ⟨?_,?_⟩ <;> dsimp only[List.map,List.cons_append,List.nil_append,pickOps,nthOp])
   all_goals repeat (first|(refine wpS_skip rfl (fun K hK=>?_);go_big_quiet_op;refine hK _ ?_;clear hK K)|(refine wpS_quiet rfl rfl (fun K hK=>?_);go_big_quiet_op;refine hK _ ?_;clear hK K)|(refine wpS_loud ?_;go_wp2_with (first|(go_at_call 90;(with_reducible refine (HIV0.out _ (keep_trans HB.out (by (repeat (first|assumption|exact Below.refl _ _|refine keep_drew ?_|refine keep_alloc ?_ _|refine keep_trans ?_ (by assumption)))))).mono ?_);rintro _ w1 ⟨g1,rfl,og1,hbi1⟩;have zs1:wr.heap.size≤w1.heap.size:=(show Below wr.heap.size wr w1 by (repeat (first|assumption|exact Below.refl _ _|refine keep_drew ?_|refine keep_alloc ?_ _|refine keep_trans ?_ (by assumption)))).size)|(go_at_call 90;(with_reducible refine (HIV1.out _ (keep_trans HB.out (by (repeat (first|assumption|exact Below.refl _ _|refine keep_drew ?_|refine keep_alloc ?_ _|refine keep_trans ?_ (by assumption)))))).mono ?_);rintro _ w2 ⟨g2,rfl,og2,hbi2⟩;have zs2:wr.heap.size≤w2.heap.size:=(show Below wr.heap.size wr w2 by (repeat (first|assumption|exact Below.refl _ _|refine keep_drew ?_|refine keep_alloc ?_ _|refine keep_trans ?_ (by assumption)))).size)|(go_at_call 90;(with_reducible refine (HIV2.out _ (keep_trans HB.out (by (repeat (first|assumption|exact Below.refl _ _|refine keep_drew ?_|refine keep_alloc ?_ _|refine keep_trans ?_ (by assumption)))))).mono ?_);rintro _ w3 ⟨g3,rfl,og3,hbi3⟩;have zs3:wr.heap.size≤w3.heap.size:=(show Below wr.heap.size wr w3 by (repeat (first|assumption|exact Below.refl _ _|refine keep_drew ?_|refine keep_alloc ?_ _|refine keep_trans ?_ (by assumption)))).size)|(go_at_call 84;(with_reducible refine (HBKL.out _ _ _ _ _ _ _ _ _ (IA.out.mono (by (repeat (first|assumption|exact Below.refl _ _|refine keep_drew ?_|refine keep_alloc ?_ _|refine keep_trans ?_ (by assumption))))) ((og1.keep (by (repeat (first|assumption|exact Below.refl _ _|refine keep_drew ?_|refine keep_alloc ?_ _|refine keep_trans ?_ (by assumption))))).ic (by omega)) ((og2.keep (by (repeat (first|assumption|exact Below.refl _ _|refine keep_drew ?_|refine keep_alloc ?_ _|refine keep_trans ?_ (by assumption))))).ic (by omega)) ((og3.keep (by (repeat (first|assumption|exact Below.refl _ _|refine keep_drew ?_|refine keep_alloc ?_ _|refine keep_trans ?_ (by assumption))))).ic (by omega))).mono ?_);rintro _ w4 ⟨a9,c9,rfl,i9,f9,hc9,hb9⟩;have hk4:Below wr.heap.size wr w4:=(by (repeat (first|assumption|exact Below.refl _ _|refine keep_drew ?_|refine keep_alloc ?_ _|refine keep_trans ?_ (by assumption))));(try (have gx:=(show w4.heap[wr.heap.size]?=some (.cells #[.int .i64 0,.int .i64 0,.slice none 0 0] 24 (0,0)) from keepq (show Below (wr.alloc (.cells #[.int .i64 0,.int .i64 0,.slice none 0 0] 24)).heap.size (wr.alloc (.cells #[.int .i64 0,.int .i64 0,.slice none 0 0] 24)) w4 by first|(with_reducible exact keep_trans (keep_trans (keep_trans hbi1 hbi2) hbi3) hb9)|(with_reducible exact keep_trans (keep_drew (Below.refl _ _)) (keep_trans (keep_trans (keep_trans hbi1 hbi2) hbi3) hb9))) (World.alloc_heap_new wr (.cells #[.int .i64 0,.int .i64 0,.slice none 0 0] 24)));obtain ⟨gc0,gc1,gc2,gcl⟩:=c3_of gx;obtain ⟨gf0,gf1,gf2⟩:=f3_of gx));(try (have gx:=(show w4.heap[wr.drew.heap.size]?=some (.cells #[.int .i64 0,.int .i64 0,.slice none 0 0] 24 (0,0)) from keepq (show Below (wr.drew.alloc (.cells #[.int .i64 0,.int .i64 0,.slice none 0 0] 24)).heap.size (wr.drew.alloc (.cells #[.int .i64 0,.int .i64 0,.slice none 0 0] 24)) w4 by first|(with_reducible exact keep_trans (keep_trans (keep_trans hbi1 hbi2) hbi3) hb9)|(with_reducible exact keep_trans (keep_drew (Below.refl _ _)) (keep_trans (keep_trans (keep_trans hbi1 hbi2) hbi3) hb9))) (World.alloc_heap_new wr.drew (.cells #[.int .i64 0,.int .i64 0,.slice none 0 0] 24)));obtain ⟨gc0,gc1,gc2,gcl⟩:=c3_of gx;obtain ⟨gf0,gf1,gf2⟩:=f3_of gx));(try (have gx:=(show w4.heap[w1.heap.size]?=some (.cells #[.int .i64 0,.int .i64 0,.slice none 0 0] 24 (0,0)) from keepq (show Below (w1.alloc (.cells #[.int .i64 0,.int .i64 0,.slice none 0 0] 24)).heap.size (w1.alloc (.cells #[.int .i64 0,.int .i64 0,.slice none 0 0] 24)) w4 by first|(with_reducible exact keep_trans (keep_trans hbi2 hbi3) hb9)|(with_reducible exact keep_trans (keep_drew (Below.refl _ _)) (keep_trans (keep_trans hbi2 hbi3) hb9))) (World.alloc_heap_new w1 (.cells #[.int .i64 0,.int .i64 0,.slice none 0 0] 24)));obtain ⟨gc0,gc1,gc2,gcl⟩:=c3_of gx;obtain ⟨gf0,gf1,gf2⟩:=f3_of gx));(try (have gx:=(show w4.heap[w2.heap.size]?=some (.cells #[.int .i64 0,.int .i64 0,.slice none 0 0] 24 (0,0)) from keepq (show Below (w2.alloc (.cells #[.int .i64 0,.int .i64 0,.slice none 0 0] 24)).heap.size (w2.alloc (.cells #[.int .i64 0,.int .i64 0,.slice none 0 0] 24)) w4 by first|(with_reducible exact keep_trans hbi3 hb9)|(with_reducible exact keep_trans (keep_drew (Below.refl _ _)) (keep_trans hbi3 hb9))) (World.alloc_heap_new w2 (.cells #[.int .i64 0,.int .i64 0,.slice none 0 0] 24)));obtain ⟨gc0,gc1,gc2,gcl⟩:=c3_of gx;obtain ⟨gf0,gf1,gf2⟩:=f3_of gx));(try (have gx:=(show w4.heap[w3.heap.size]?=some (.cells #[.int .i64 0,.int .i64 0,.slice none 0 0] 24 (0,0)) from keepq (show Below (w3.alloc (.cells #[.int .i64 0,.int .i64 0,.slice none 0 0] 24)).heap.size (w3.alloc (.cells #[.int .i64 0,.int .i64 0,.slice none 0 0] 24)) w4 by first|(with_reducible exact hb9)|(with_reducible exact keep_trans (keep_drew (Below.refl _ _)) (hb9))) (World.alloc_heap_new w3 (.cells #[.int .i64 0,.int .i64 0,.slice none 0 0] 24)));obtain ⟨gc0,gc1,gc2,gcl⟩:=c3_of gx;obtain ⟨gf0,gf1,gf2⟩:=f3_of gx)))|fail);refine ⟨?_,?_⟩;focus (exact ⟨_,below_over (by repeat (first|assumption|exact Below.refl _ _|refine keep_drew ?_|refine keep_alloc ?_ _|refine keep_set ?_ (by first|omega|(dsimp only;omega)) _|refine keep_trans ?_ (by assumption)))⟩)))
   all_goals try refine wpTr_end ?_
   all_goals try dsimp only[wpTr,pickOps,nthOp]
   all_goals repeat (first|(refine wpS_skip rfl (fun K hK=>?_);go_big_quiet_op;refine hK _ ?_;clear hK K)|(refine wpS_quiet rfl rfl (fun K hK=>?_);go_big_quiet_op;refine hK _ ?_;clear hK K)|(refine wpS_loud ?_;go_wp2_with (first|(go_at_call 90;(with_reducible refine (HIV0.out _ (keep_trans HB.out (by (repeat (first|assumption|exact Below.refl _ _|refine keep_drew ?_|refine keep_alloc ?_ _|refine keep_trans ?_ (by assumption)))))).mono ?_);rintro _ w1 ⟨g1,rfl,og1,hbi1⟩;have zs1:wr.heap.size≤w1.heap.size:=(show Below wr.heap.size wr w1 by (repeat (first|assumption|exact Below.refl _ _|refine keep_drew ?_|refine keep_alloc ?_ _|refine keep_trans ?_ (by assumption)))).size)|(go_at_call 90;(with_reducible refine (HIV1.out _ (keep_trans HB.out (by (repeat (first|assumption|exact Below.refl _ _|refine keep_drew ?_|refine keep_alloc ?_ _|refine keep_trans ?_ (by assumption)))))).mono ?_);rintro _ w2 ⟨g2,rfl,og2,hbi2⟩;have zs2:wr.heap.size≤w2.heap.size:=(show Below wr.heap.size wr w2 by (repeat (first|assumption|exact Below.refl _ _|refine keep_drew ?_|refine keep_alloc ?_ _|refine keep_trans ?_ (by assumption)))).size)|(go_at_call 90;(with_reducible refine (HIV2.out _ (keep_trans HB.out (by (repeat (first|assumption|exact Below.refl _ _|refine keep_drew ?_|refine keep_alloc ?_ _|refine keep_trans ?_ (by assumption)))))).mono ?_);rintro _ w3 ⟨g3,rfl,og3,hbi3⟩;have zs3:wr.heap.size≤w3.heap.size:=(show Below wr.heap.size wr w3 by (repeat (first|assumption|exact Below.refl _ _|refine keep_drew ?_|refine keep_alloc ?_ _|refine keep_trans ?_ (by assumption)))).size)|(go_at_call 84;(with_reducible refine (HBKL.out _ _ _ _ _ _ _ _ _ (IA.out.mono (by (repeat (first|assumption|exact Below.refl _ _|refine keep_drew ?_|refine keep_alloc ?_ _|refine keep_trans ?_ (by assumption))))) ((og1.keep (by (repeat (first|assumption|exact Below.refl _ _|refine keep_drew ?_|refine keep_alloc ?_ _|refine keep_trans ?_ (by assumption))))).ic (by omega)) ((og2.keep (by (repeat (first|assumption|exact Below.refl _ _|refine keep_drew ?_|refine keep_alloc ?_ _|refine keep_trans ?_ (by assumption))))).ic (by omega)) ((og3.keep (by (repeat (first|assumption|exact Below.refl _ _|refine keep_drew ?_|refine keep_alloc ?_ _|refine keep_trans ?_ (by assumption))))).ic (by omega))).mono ?_);rintro _ w4 ⟨a9,c9,rfl,i9,f9,hc9,hb9⟩;have hk4:Below wr.heap.size wr w4:=(by (repeat (first|assumption|exact Below.refl _ _|refine keep_drew ?_|refine keep_alloc ?_ _|refine keep_trans ?_ (by assumption))));(try (have gx:=(show w4.heap[wr.heap.size]?=some (.cells #[.int .i64 0,.int .i64 0,.slice none 0 0] 24 (0,0)) from keepq (show Below (wr.alloc (.cells #[.int .i64 0,.int .i64 0,.slice none 0 0] 24)).heap.size (wr.alloc (.cells #[.int .i64 0,.int .i64 0,.slice none 0 0] 24)) w4 by first|(with_reducible exact keep_trans (keep_trans (keep_trans hbi1 hbi2) hbi3) hb9)|(with_reducible exact keep_trans (keep_drew (Below.refl _ _)) (keep_trans (keep_trans (keep_trans hbi1 hbi2) hbi3) hb9))) (World.alloc_heap_new wr (.cells #[.int .i64 0,.int .i64 0,.slice none 0 0] 24)));obtain ⟨gc0,gc1,gc2,gcl⟩:=c3_of gx;obtain ⟨gf0,gf1,gf2⟩:=f3_of gx));(try (have gx:=(show w4.heap[wr.drew.heap.size]?=some (.cells #[.int .i64 0,.int .i64 0,.slice none 0 0] 24 (0,0)) from keepq (show Below (wr.drew.alloc (.cells #[.int .i64 0,.int .i64 0,.slice none 0 0] 24)).heap.size (wr.drew.alloc (.cells #[.int .i64 0,.int .i64 0,.slice none 0 0] 24)) w4 by first|(with_reducible exact keep_trans (keep_trans (keep_trans hbi1 hbi2) hbi3) hb9)|(with_reducible exact keep_trans (keep_drew (Below.refl _ _)) (keep_trans (keep_trans (keep_trans hbi1 hbi2) hbi3) hb9))) (World.alloc_heap_new wr.drew (.cells #[.int .i64 0,.int .i64 0,.slice none 0 0] 24)));obtain ⟨gc0,gc1,gc2,gcl⟩:=c3_of gx;obtain ⟨gf0,gf1,gf2⟩:=f3_of gx));(try (have gx:=(show w4.heap[w1.heap.size]?=some (.cells #[.int .i64 0,.int .i64 0,.slice none 0 0] 24 (0,0)) from keepq (show Below (w1.alloc (.cells #[.int .i64 0,.int .i64 0,.slice none 0 0] 24)).heap.size (w1.alloc (.cells #[.int .i64 0,.int .i64 0,.slice none 0 0] 24)) w4 by first|(with_reducible exact keep_trans (keep_trans hbi2 hbi3) hb9)|(with_reducible exact keep_trans (keep_drew (Below.refl _ _)) (keep_trans (keep_trans hbi2 hbi3) hb9))) (World.alloc_heap_new w1 (.cells #[.int .i64 0,.int .i64 0,.slice none 0 0] 24)));obtain ⟨gc0,gc1,gc2,gcl⟩:=c3_of gx;obtain ⟨gf0,gf1,gf2⟩:=f3_of gx));(try (have gx:=(show w4.heap[w2.heap.size]?=some (.cells #[.int .i64 0,.int .i64 0,.slice none 0 0] 24 (0,0)) from keepq (show Below (w2.alloc (.cells #[.int .i64 0,.int .i64 0,.slice none 0 0] 24)).heap.size (w2.alloc (.cells #[.int .i64 0,.int .i64 0,.slice none 0 0] 24)) w4 by first|(with_reducible exact keep_trans hbi3 hb9)|(with_reducible exact keep_trans (keep_drew (Below.refl _ _)) (keep_trans hbi3 hb9))) (World.alloc_heap_new w2 (.cells #[.int .i64 0,.int .i64 0,.slice none 0 0] 24)));obtain ⟨gc0,gc1,gc2,gcl⟩:=c3_of gx;obtain ⟨gf0,gf1,gf2⟩:=f3_of gx));(try (have gx:=(show w4.heap[w3.heap.size]?=some (.cells #[.int .i64 0,.int .i64 0,.slice none 0 0] 24 (0,0)) from keepq (show Below (w3.alloc (.cells #[.int .i64 0,.int .i64 0,.slice none 0 0] 24)).heap.size (w3.alloc (.cells #[.int .i64 0,.int .i64 0,.slice none 0 0] 24)) w4 by first|(with_reducible exact hb9)|(with_reducible exact keep_trans (keep_drew (Below.refl _ _)) (hb9))) (World.alloc_heap_new w3 (.cells #[.int .i64 0,.int .i64 0,.slice none 0 0] 24)));obtain ⟨gc0,gc1,gc2,gcl⟩:=c3_of gx;obtain ⟨gf0,gf1,gf2⟩:=f3_of gx)))|fail);refine ⟨?_,?_⟩;focus (exact ⟨_,below_over (by repeat (first|assumption|exact Below.refl _ _|refine keep_drew ?_|refine keep_alloc ?_ _|refine keep_set ?_ (by first|omega|(dsimp only;omega)) _|refine keep_trans ?_ (by assumption)))⟩)))
   all_goals refine wpS_late _ _ _ rfl ?_
   all_goals dsimp only[List.map]
   all_goals
    go_wp2_with fail
    refine hK9 _ _ (Met.intro (hJ9 _ _ ?_))
    (repeat apply Exists.intro)
    refine ⟨?rel,rfl⟩
    case rel =>
     have z1:=hbi1.size
     have z2:=hbi2.size
     have z3:=hbi3.size
     simp only[World.size_alloc,World.size_drew] at z1 z2 z3
     first
      | exact ⟨_,a9,c9,rfl,rfl,World.alloc_heap_new _ _,i9.mono (keep_alloc (Below.refl _ _) _),keep_alloc hk4 _⟩
      | exact ⟨_,a9,c9,rfl,rfl,st3_q gx,i9.st3 (fun b o e=>by have z9:=f9 b o e;(repeat first|rw[World.size_alloc] at z9|rw[World.size_drew] at z9);(repeat first|rw[World.size_alloc]|rw[World.size_drew]);omega),st3_below hk4 (by (repeat first|rw[World.size_alloc]|rw[World.size_drew]);omega)⟩
  obtain ⟨b24,a9,c9,rfl,rfl,q24,i24,hbc⟩:=hcut
  rename World=>wA
  clear s0 s1 s2 sl y0 y1 y2 y3 y4 y5 yl
  have hmv:Below wr.heap.size wr wA:=hbc.out
  replace Q0:=Lib.hid (keepq hmv Q0.out)
  replace Q1:=Lib.hid (keepq hmv Q1.out)
  replace Q6:=Lib.hid (keepq hmv Q6.out)
  replace Q8:=Lib.hid (keepq hmv Q8.out)
  replace IL:=Lib.hid (IL.out.mono hmv)
  replace IA:=Lib.hid (IA.out.mono hmv)
  replace IC8:=Lib.hid (IC8.out.mono hmv)
  replace HB:=Lib.hid (keep_trans HB.out hmv)
  clear hmv hbc
  clear HBKL HIV0 HIV1 HIV2
  obtain ⟨y0,y1,y2,y3,y4,y5,yl⟩:=c6_of Q1.out
  go_upto_region 26 with fail
  have gsz:(wA.alloc (.cells #[.int .i64 0,.int .i64 0,.int .i64 0] 96)).heap.size=wA.heap.size+1:=by simp only[World.size_alloc]
  have gB:Below wA.heap.size wA (wA.alloc (.cells #[.int .i64 0,.int .i64 0,.int .i64 0] 96)):=(Below.refl _ _).alloc (Nat.le_refl _) _
  have gq0:(wA.alloc (.cells #[.int .i64 0,.int .i64 0,.int .i64 0] 96)).heap[wA.heap.size]?=some (.cells #[.int .i64 0,.int .i64 0,.int .i64 0] 96 (0,0)):=by have h:=World.alloc_heap_new wA (.cells #[.int .i64 0,.int .i64 0,.int .i64 0] 96);exact h
  generalize (wA.alloc (.cells #[.int .i64 0,.int .i64 0,.int .i64 0] 96))=V26 at gsz gB gq0 ⊢
  have HWA:=Lib.hid gB
  have OLDQ0:=Q0
  have OLDQ1:=Q1
  have OLDQ6:=Q6
  have OLDQ8:=Q8
  have OLDq24:=q24
  have OLDIL:=IL
  have OLDIA:=IA
  have OLDIC8:=IC8
  have OLDi24:=i24
  have OLDHB:=HB
  clear y0 y1 y2 y3 y4 y5 yl
  have hmv:Below wA.heap.size wA V26:=gB
  replace Q0:=Lib.hid (keepq hmv Q0.out)
  replace Q1:=Lib.hid (keepq hmv Q1.out)
  replace Q6:=Lib.hid (keepq hmv Q6.out)
  replace Q8:=Lib.hid (keepq hmv Q8.out)
  replace q24:=Lib.hid (keepq hmv q24.out)
  replace IL:=Lib.hid (IL.out.mono hmv)
  replace IA:=Lib.hid (IA.out.mono hmv)
  replace IC8:=Lib.hid (IC8.out.mono hmv)
  replace i24:=Lib.hid (i24.out.mono hmv)
  replace HB:=Lib.hid (keep_trans HB.out hmv)
  clear hmv
  have Q26:=Lib.hid gq0
  clear gsz gq0 gB
  obtain ⟨y0,y1,y2,y3,y4,y5,yl⟩:=c6_of Q1.out
  have T0:Hid (∀j,tvN q1 q2 0 j=0):=fun j=>rfl
  have T1:Hid (∀j,tvN q1 q2 1 j=0):=fun j=>rfl
  have T2:Hid (∀j,tvN q1 q2 2 j=if q1=j then 1 else 0):=fun j=>rfl
  have T3:Hid (∀j,tvN q1 q2 3 j=if q2=j then 2 else tvN q1 q2 2 j):=fun j=>rfl
  generalize tvN q1 q2=tv at T0 T1 T2 T3 HAGL HTP
  go_wp2_with fail
  go_loopw [27,28,201] (fun _ _ s201 wr=>∃k:Nat,k≤3∧s201 = .int .i64 (k:Int)∧Hid (wr.heap[wA.heap.size]?=some (.cells #[.int .i64 (tv k 0:Int),.int .i64 (tv k 1:Int),.int .i64 (tv k 2:Int)] 96 (0,0)))∧Hid (Below wA.heap.size wA wr)) (fun _ _ s201 _=>3 - (intOf s201).toNat)
  case atStart=>exact ⟨0,by omega,rfl,by rw[T0.out,T0.out,T0.out];exact Q26.out,HWA.out⟩
  case round =>
   obtain ⟨k,hk,rfl,hqt,hbt⟩:=hrel
   by_cases e0:k=0
   ·subst e0
    obtain ⟨e0,e1,e2,el⟩:=c3_of hqt.out
    obtain ⟨ef0,ef1,ef2⟩:=f3_of hqt.out
    have hq3:(q0:Int)<3:=by omega
    have hst:=q_set (i:=q0) hqt.out (.int .i64 0)
    rw[set3 hq0] at hst
    have hbs:=hbt.out.setCell (p:=⟨wA.heap.size,q0,none⟩) (Nat.le_refl _) (.int .i64 0)
    have hcx:∃x,wr.cell? ⟨wA.heap.size,q0,none⟩=some x:=by
     rcases (show q0=0∨q0=1∨q0=2 by omega) with h|h|h
     ·exact ⟨_,by rw[h];exact e0⟩
     ·exact ⟨_,by rw[h];exact e1⟩
     ·exact ⟨_,by rw[h];exact e2⟩
    have hfx:wr.frozen? ⟨wA.heap.size,q0,none⟩=false:=by
     rcases (show q0=0∨q0=1∨q0=2 by omega) with h|h|h
     ·rw[h];exact ef0
     ·rw[h];exact ef1
     ·rw[h];exact ef2
    obtain ⟨xo,hcx⟩:=hcx
    have HST:Hid ((wr.setCell ⟨wA.heap.size,q0,none⟩ (.int .i64 0)).heap[wA.heap.size]?=some (.cells #[.int .i64 (tv 1 0:Int),.int .i64 (tv 1 1:Int),.int .i64 (tv 1 2:Int)] 96 (0,0))):=by
     unfold Hid
     rw[hst]
     congr 2
     have hv:∀j,(tv 1 j:Int)=if q0=j then 0 else (tv 0 j:Int):=fun j=>by
      rw[T1.out];rw[T0.out]
      by_cases h:q0=j
      ·simp
      ·simp
     rw[hv 0,hv 1,hv 2]
    have HBS:=Lib.hid hbs
    clear hst hbs e0 e1 e2 ef0 ef1 ef2
    go_wp2_with (first|(rw[ix3_0])|fail)
    go_roundw
    case rel=>exact ⟨1,by omega,by go_num,HST,HBS.out⟩
    case measure=>simp[intOf]
   by_cases e1:k=1
   ·subst e1
    obtain ⟨e0,e1,e2,el⟩:=c3_of hqt.out
    obtain ⟨ef0,ef1,ef2⟩:=f3_of hqt.out
    have hq3:(q1:Int)<3:=by omega
    have hst:=q_set (i:=q1) hqt.out (.int .i64 1)
    rw[set3 hq1] at hst
    have hbs:=hbt.out.setCell (p:=⟨wA.heap.size,q1,none⟩) (Nat.le_refl _) (.int .i64 1)
    have hcx:∃x,wr.cell? ⟨wA.heap.size,q1,none⟩=some x:=by
     rcases (show q1=0∨q1=1∨q1=2 by omega) with h|h|h
     ·exact ⟨_,by rw[h];exact e0⟩
     ·exact ⟨_,by rw[h];exact e1⟩
     ·exact ⟨_,by rw[h];exact e2⟩
    have hfx:wr.frozen? ⟨wA.heap.size,q1,none⟩=false:=by
     rcases (show q1=0∨q1=1∨q1=2 by omega) with h|h|h
     ·rw[h];exact ef0
     ·rw[h];exact ef1
     ·rw[h];exact ef2
    obtain ⟨xo,hcx⟩:=hcx
    have HST:Hid ((wr.setCell ⟨wA.heap.size,q1,none⟩ (.int .i64 1)).heap[wA.heap.size]?=some (.cells #[.int .i64 (tv 2 0:Int),.int .i64 (tv 2 1:Int),.int .i64 (tv 2 2:Int)] 96 (0,0))):=by
     unfold Hid
     rw[hst]
     congr 2
     have hv:∀j,(tv 2 j:Int)=if q1=j then 1 else (tv 1 j:Int):=fun j=>by
      rw[T2.out];rw[T1.out]
      by_cases h:q1=j
      ·simp[h]
      ·simp[h]
     rw[hv 0,hv 1,hv 2]
    have HBS:=Lib.hid hbs
    clear hst hbs e0 e1 e2 ef0 ef1 ef2
    go_wp2_with (first|(rw[ix3_1])|fail)
    go_roundw
    case rel=>exact ⟨2,by omega,by go_num,HST,HBS.out⟩
    case measure=>simp[intOf]
   by_cases e2:k=2
   ·subst e2
    obtain ⟨e0,e1,e2,el⟩:=c3_of hqt.out
    obtain ⟨ef0,ef1,ef2⟩:=f3_of hqt.out
    have hq3:(q2:Int)<3:=by omega
    have hst:=q_set (i:=q2) hqt.out (.int .i64 2)
    rw[set3 hq2] at hst
    have hbs:=hbt.out.setCell (p:=⟨wA.heap.size,q2,none⟩) (Nat.le_refl _) (.int .i64 2)
    have hcx:∃x,wr.cell? ⟨wA.heap.size,q2,none⟩=some x:=by
     rcases (show q2=0∨q2=1∨q2=2 by omega) with h|h|h
     ·exact ⟨_,by rw[h];exact e0⟩
     ·exact ⟨_,by rw[h];exact e1⟩
     ·exact ⟨_,by rw[h];exact e2⟩
    have hfx:wr.frozen? ⟨wA.heap.size,q2,none⟩=false:=by
     rcases (show q2=0∨q2=1∨q2=2 by omega) with h|h|h
     ·rw[h];exact ef0
     ·rw[h];exact ef1
     ·rw[h];exact ef2
    obtain ⟨xo,hcx⟩:=hcx
    have HST:Hid ((wr.setCell ⟨wA.heap.size,q2,none⟩ (.int .i64 2)).heap[wA.heap.size]?=some (.cells #[.int .i64 (tv 3 0:Int),.int .i64 (tv 3 1:Int),.int .i64 (tv 3 2:Int)] 96 (0,0))):=by
     unfold Hid
     rw[hst]
     congr 2
     have hv:∀j,(tv 3 j:Int)=if q2=j then 2 else (tv 2 j:Int):=fun j=>by
      rw[T3.out]
      by_cases h:q2=j
      ·simp[h]
      ·simp[h]
     rw[hv 0,hv 1,hv 2]
    have HBS:=Lib.hid hbs
    clear hst hbs e0 e1 e2 ef0 ef1 ef2
    go_wp2_with (first|(rw[ix3_2])|fail)
    go_roundw
    case rel=>exact ⟨3,by omega,by go_num,HST,HBS.out⟩
    case measure=>simp[intOf]
   have hk3:k=3:=by omega
   have hk4:¬(k:Int)<3:=by omega
   have hqt9:=hqt.out
   rw[hk3] at hqt9
   have QT:=Lib.hid hqt9
   clear T0 T1 T2 T3 hqt9 hqt hk3 hk
   obtain ⟨t0,h0t⟩:∃t,t=tv 3 0:=⟨_,rfl⟩
   obtain ⟨t1,h1t⟩:∃t,t=tv 3 1:=⟨_,rfl⟩
   obtain ⟨t2,h2t⟩:∃t,t=tv 3 2:=⟨_,rfl⟩
   rw[← h0t,← h1t,← h2t] at QT HAGL
   clear h0t h1t h2t
   have hV:=hbt.out
   replace Q0:=Lib.hid (keepq hV OLDQ0.out)
   replace Q1:=Lib.hid (keepq hV OLDQ1.out)
   replace Q6:=Lib.hid (keepq hV OLDQ6.out)
   replace Q8:=Lib.hid (keepq hV OLDQ8.out)
   replace q24:=Lib.hid (keepq hV OLDq24.out)
   replace IL:=Lib.hid (OLDIL.out.mono hV)
   replace IA:=Lib.hid (OLDIA.out.mono hV)
   replace IC8:=Lib.hid (OLDIC8.out.mono hV)
   replace i24:=Lib.hid (OLDi24.out.mono hV)
   replace HB:=Lib.hid (keep_trans OLDHB.out hV)
   clear hV
   obtain ⟨t0,t1,t2,tl⟩:=c3_of Q8.out
   obtain ⟨e0,e1,e2,el⟩:=c3_of QT.out
   go_upto_region 32 with (first|(go_at_call 85;(with_reducible refine (HAGL.out _ _ _ IC8.out).mono ?_);rintro _ wF ⟨aF,cF,rfl,iF,_,hcF,hbF⟩)|fail)
   have gsz:(wF.alloc (.cells #[.int .i64 (N:Int),.int .i64 (N:Int),.slice aF n cF] 24)).heap.size=wF.heap.size+1:=by simp only[World.size_alloc]
   have gB:Below wF.heap.size wF (wF.alloc (.cells #[.int .i64 (N:Int),.int .i64 (N:Int),.slice aF n cF] 24)):=(Below.refl _ _).alloc (Nat.le_refl _) _
   have gq0:(wF.alloc (.cells #[.int .i64 (N:Int),.int .i64 (N:Int),.slice aF n cF] 24)).heap[wF.heap.size]?=some (.cells #[.int .i64 (N:Int),.int .i64 (N:Int),.slice aF n cF] 24 (0,0)):=by have h:=World.alloc_heap_new wF (.cells #[.int .i64 (N:Int),.int .i64 (N:Int),.slice aF n cF] 24);exact h
   generalize (wF.alloc (.cells #[.int .i64 (N:Int),.int .i64 (N:Int),.slice aF n cF] 24))=V29 at gsz gB gq0 ⊢
   clear t0 t1 t2 tl e0 e1 e2 el
   have hmv:Below wr.heap.size wr V29:=keep_trans hbF gB
   replace Q0:=Lib.hid (keepq hmv Q0.out)
   replace Q1:=Lib.hid (keepq hmv Q1.out)
   replace Q6:=Lib.hid (keepq hmv Q6.out)
   replace Q8:=Lib.hid (keepq hmv Q8.out)
   replace q24:=Lib.hid (keepq hmv q24.out)
   replace QT:=Lib.hid (keepq hmv QT.out)
   replace IL:=Lib.hid (IL.out.mono hmv)
   replace IA:=Lib.hid (IA.out.mono hmv)
   replace IC8:=Lib.hid (IC8.out.mono hmv)
   replace i24:=Lib.hid (i24.out.mono hmv)
   replace HB:=Lib.hid (keep_trans HB.out hmv)
   clear hmv
   have Q29:=Lib.hid gq0
   have IF:=Lib.hid (iF.mono gB)
   clear hbF gsz gq0 gB iF HAGL
   obtain ⟨s0,s1,s2,sl⟩:=c3_of Q6.out
   go_upto_region 33 with (first|(go_at_call 83;(with_reducible refine (HRDL.out _ _ _ IA.out hca1).mono ?_);rintro _ wH ⟨aH,cH,rfl,iH,_,hcH,hbH⟩)|fail)
   have gsz:(wH.alloc (.cells #[.int .i64 (N:Int),.int .i64 (N:Int),.slice aH n cH] 24)).heap.size=wH.heap.size+1:=by simp only[World.size_alloc]
   have gB:Below wH.heap.size wH (wH.alloc (.cells #[.int .i64 (N:Int),.int .i64 (N:Int),.slice aH n cH] 24)):=(Below.refl _ _).alloc (Nat.le_refl _) _
   have gq0:(wH.alloc (.cells #[.int .i64 (N:Int),.int .i64 (N:Int),.slice aH n cH] 24)).heap[wH.heap.size]?=some (.cells #[.int .i64 (N:Int),.int .i64 (N:Int),.slice aH n cH] 24 (0,0)):=by have h:=World.alloc_heap_new wH (.cells #[.int .i64 (N:Int),.int .i64 (N:Int),.slice aH n cH] 24);exact h
   generalize (wH.alloc (.cells #[.int .i64 (N:Int),.int .i64 (N:Int),.slice aH n cH] 24))=V31 at gsz gB gq0 ⊢
   clear s0 s1 s2 sl
   have hmv:Below V29.heap.size V29 V31:=keep_trans hbH gB
   replace Q0:=Lib.hid (keepq hmv Q0.out)
   replace Q1:=Lib.hid (keepq hmv Q1.out)
   replace Q6:=Lib.hid (keepq hmv Q6.out)
   replace Q8:=Lib.hid (keepq hmv Q8.out)
   replace q24:=Lib.hid (keepq hmv q24.out)
   replace QT:=Lib.hid (keepq hmv QT.out)
   replace Q29:=Lib.hid (keepq hmv Q29.out)
   replace IL:=Lib.hid (IL.out.mono hmv)
   replace IA:=Lib.hid (IA.out.mono hmv)
   replace IC8:=Lib.hid (IC8.out.mono hmv)
   replace i24:=Lib.hid (i24.out.mono hmv)
   replace IF:=Lib.hid (IF.out.mono hmv)
   replace HB:=Lib.hid (keep_trans HB.out hmv)
   clear hmv
   have Q31:=Lib.hid gq0
   have IH:=Lib.hid (iH.mono gB)
   clear hbH gsz gq0 gB iH HRDL
   obtain ⟨x0,x1,x2,xl⟩:=c3_of Q0.out
   obtain ⟨b0,b1,b2,bl⟩:=c3_of q24.out
   have S1:=Lib.hid (fun W (hb:Below V31.heap.size V31 W)=>rsame_c (N:Int) (N:Int) a9 n c9 cs (N:Int) (N:Int) a n c cs W (i24.out.mono hb) (IL.out.mono hb))
   have S2:=Lib.hid (fun W (hb:Below V31.heap.size V31 W)=>rsame_c (N:Int) (N:Int) aF n cF cs (N:Int) (N:Int) a n c cs W (IF.out.mono hb) (IL.out.mono hb))
   rw[show sameG (N:Int) (N:Int) cs (N:Int) (N:Int) cs=true by unfold sameG;simp[sameB]] at S1 S2
   have HK3W:=Lib.hid (fun W (hb:Below V31.heap.size V31 W)=>HK3.out aH cH W (IH.out.mono hb))
   obtain ⟨hx0,hxN⟩:=HR0.out
   have hNI:(N:Int) - 1=((N - 1:Nat):Int):=by omega
   have hNl:((N - 1:Nat):Int)<(n:Int):=by omega
   have hnI:(0:Int)<(n:Int):=by omega
   have hc0:=Lib.hid (fun W (hb:Below V31.heap.size V31 W)=>(IH.out.mono hb).2 0 (by omega))
   have hcN:=Lib.hid (fun W (hb:Below V31.heap.size V31 W)=>(IH.out.mono hb).2 (N - 1) (by omega))
   rw[hx0] at hc0
   rw[hxN] at hcN
   obtain ⟨bH,oH,hae,_,_⟩:=hc0.out V31 (Below.refl _ _)
   have hcz:Hid (∀W,Below V31.heap.size V31 W→bH<W.heap.size∧W.cell? ⟨bH,oH,none⟩=some (.int .i64 0)∧W.cell? ⟨bH,oH+(N - 1),none⟩=some (.int .i64 ((N - 1:Nat):Int))):=fun W hb=>by
    obtain ⟨b1,o1,e1,l1,z1⟩:=hc0.out W hb
    obtain ⟨b2,o2,e2,l2,z2⟩:=hcN.out W hb
    rw[hae] at e1 e2
    cases e1
    cases e2
    exact ⟨l1,z1,z2⟩
   clear hx0 hxN hc0 hcN
   subst hae
   generalize N - 1=N9 at hNI hNl hcz
   have dEq:(((N9:Int))==(N9:Int))=true:=by simp
   go_wp2_with (first|(go_at_call 43;(with_reducible refine (S1.out _ (Below.refl _ _)).mono ?_);rintro _ x1w ⟨rfl,hbx1⟩;have hkx1w:Below V31.heap.size V31 x1w:=hbx1;obtain ⟨dx1w0,dx1w1,dx1w2,dx1wl⟩:=c3_of (keepq hkx1w Q29.out);obtain ⟨xx1w0,xx1w1,xx1w2,xx1wl⟩:=c3_of (keepq hkx1w Q0.out))|(go_at_call 43;(with_reducible refine (S2.out _ hkx1w).mono ?_);rintro _ x2w ⟨rfl,hbx2⟩;have hkx2w:Below V31.heap.size V31 x2w:=keep_trans hkx1w hbx2;obtain ⟨mx2w0,mx2w1,mx2w2,mx2wl⟩:=c3_of (keepq hkx2w Q31.out))|(go_at_call 22;(with_reducible refine (HK3W.out _ hkx2w).mono ?_);rintro _ x3w ⟨rfl,hbx3⟩;have hkx3w:Below V31.heap.size V31 x3w:=keep_trans hkx2w hbx3;obtain ⟨mx3w0,mx3w1,mx3w2,mx3wl⟩:=c3_of (keepq hkx3w Q31.out);obtain ⟨zl9,z09,zN9⟩:=hcz.out _ hkx3w)|(go_at_call 20;refine (awake4_c _).mono ?_;rintro _ wz ⟨rfl,hbz⟩)|fail)
   refine bodyPost_ret (v := .bool true) ?_ rfl ⟨rfl,keep_trans HB.out (keep_trans hkx3w hbz)⟩
   simp[results,Tryz.f18,go_sem]
end
end Go.Proofs.YtmfpdakaeagdpaaGreat
