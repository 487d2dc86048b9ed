/- Texts J166 to J166 of this proof, in one file. -/
import Derived.Test.YtmfpdakaeagdpaaGreatW01
import Derived.Test.YtmfpdakaeagdpaaGreatW02
import Derived.Test.YtmfpdakaeagdpaaGreatW03
import Derived.Test.YtmfpdakaeagdpaaGreatW04
import Derived.Test.YtmfpdakaeagdpaaGreatW05
import Derived.Test.YtmfpdakaeagdpaaGreatW06
import Derived.Test.YtmfpdakaeagdpaaGreatW07
import Derived.Test.YtmfpdakaeagdpaaGreatW08
import Derived.Test.YtmfpdakaeagdpaaGreatW09
import Derived.Test.YtmfpdakaeagdpaaGreatW10
import Derived.Test.YtmfpdakaeagdpaaGreatW11
import Derived.Test.YtmfpdakaeagdpaaGreatW12
import Derived.Test.YtmfpdakaeagdpaaGreatW13
import Derived.Test.YtmfpdakaeagdpaaGreatW14
import Derived.Test.YtmfpdakaeagdpaaGreatW15
import Derived.Test.YtmfpdakaeagdpaaGreatW16
import Derived.Test.YtmfpdakaeagdpaaGreatW17
import Derived.Test.YtmfpdakaeagdpaaGreatW18
import Derived.Test.YtmfpdakaeagdpaaGreatW19
import Derived.Test.YtmfpdakaeagdpaaGreatW20
import Derived.Test.YtmfpdakaeagdpaaGreatW21
import Derived.Test.YtmfpdakaeagdpaaGreatW22
import Derived.Test.YtmfpdakaeagdpaaGreatW23
import Derived.Test.YtmfpdakaeagdpaaGreatW24
import Derived.Test.YtmfpdakaeagdpaaGreatW25
import Derived.Test.YtmfpdakaeagdpaaGreatW26
import Derived.Test.YtmfpdakaeagdpaaGreatW27
import Derived.Test.YtmfpdakaeagdpaaGreatX30n01
import Derived.Test.YtmfpdakaeagdpaaGreatX30n02
import Derived.Test.YtmfpdakaeagdpaaGreatX30n03
import Derived.Test.YtmfpdakaeagdpaaGreatX30n04
import Derived.Test.YtmfpdakaeagdpaaGreatX30n05
import Derived.Below
import Derived.BigFrame
import Derived.BigQuiet
import Derived.Deep.CutBlock
import Derived.Deep.CutRange
import Derived.Deep.LoopGhost
import Derived.Deep.Quiet
import Derived.Deep.RegionHeld3
import Derived.DeepKeys4
import Derived.KernelRfl
import Derived.Laws.BitsAllLaws
import Derived.Laws.EntriesVeiled
import Derived.Lib.AppendZeros
import Derived.Lib.Hide
import Derived.Lib.SlKeysI
import Derived.Lib.SliceRun
import Derived.LoopIn
import Derived.LoopNIn
import Derived.Maps.AppendAt
import Derived.Maps.OwnIn
import Derived.Maps.OwnSet
import Derived.OneCell
import Derived.OrdersHeld
import Derived.OrdersIn
import Derived.OwnWalkIn
import Derived.RangeFuncBound
import Derived.RangeFuncBox
import Derived.RangeFuncCalls
import Derived.RangeFuncLeaves
import Derived.RangeFuncNested
import Derived.RangeFuncWrites
import Derived.Shelf.Abstract
import Derived.Shelf.SortM.Plain
import Derived.Still
import Derived.TacticsIn
import Derived.TacticsInMore
import Derived.Test.YtmfpdakaeagdpaaGreatProg
import Derived.WalkKit
import Derived.WalkLawsBesides
import Derived.WalkSpells
import Derived.WideKeyPair
namespace Go.Proofs.YtmfpdakaeagdpaaGreat
set_option maxRecDepth 100000
set_option maxHeartbeats 16000000
section
open Go Go.RowKit
attribute [local go_sem] over_cell
attribute [local go_sem] Oper.semAt_some
theorem c2_of {w:World} {b:Nat} {v0 v1:Value} {T:TypeId} (h:w.heap[b]?=some (.cells #[v0,v1] T (0,0))):w.cell? ⟨b,0,none⟩=some v0∧w.cell? ⟨b,1,none⟩=some v1∧b<w.heap.size:=⟨q_cell h 0,q_cell h 1,q_lt h⟩
theorem ix2a (x0 x1:Value) (w:World):(Instr.index 62 (.agg #[x0,x1]) (.int .i64 0)).run Tryz.prog w = .ok x0 w:=by kernel_rfl
theorem ix2b (x0 x1:Value) (w:World):(Instr.index 62 (.agg #[x0,x1]) (.int .i64 1)).run Tryz.prog w = .ok x1 w:=by kernel_rfl
def btF (A B:Int) (k:Nat):Int:=if k=0 then 0 else if k=1 then (if farB A=true then 3 else 0) else if farB B=true then 3 else if farB A=true then 3 else 0
@[reducible] def tH (w:World) (f:Nat) (args:Array Value) (v:Value):Prop:=∀W,Below w.heap.size w W→Calls Tryz.prog f args W fun e w'=>e = .returned v∧Below W.heap.size W w'
@[reducible] def tG (w:World) (f:Nat) (args:Array Value) (R1:Int) (k1:Nat) (X1:List Int) (er1:Int):Prop:=∀W,Below w.heap.size w W→Calls Tryz.prog f args W fun e w'=>∃a1 c1,e = .returned (.tuple #[.agg #[.int .i64 R1,.int .i64 R1,.slice a1 k1 c1],.int .i64 er1])∧IC w' a1 k1 X1∧Below W.heap.size W w'
@[reducible] def tF (w:World) (m:Int) (R3:Int) (k3 k4:Nat) (X3 X4:List Int) (er3:Int):Prop:=∀W,Below w.heap.size w W→Calls Tryz.prog 56 #[.int .i64 m] W fun e w'=>∃a3 c3 a4 c4,e = .returned (.tuple #[.agg #[.int .i64 R3,.int .i64 R3,.slice a3 k3 c3],.agg #[.int .i64 R3,.int .i64 R3,.slice a4 k4 c4],.int .i64 er3])∧IC w' a3 k3 X3∧IC w' a4 k4 X4∧Below W.heap.size W w'
@[reducible] def tL (w:World) (m:Int) (k5 NN:Nat) (css:List (List Int)) (er5:Int):Prop:=∀W,Below w.heap.size w W→Calls Tryz.prog 57 #[.int .i64 m] W fun e w'=>∃a5 c5,e = .returned (.tuple #[.slice a5 k5 c5,.int .i64 er5])∧GL w' a5 k5 NN css∧Below W.heap.size W w'
@[reducible] def tR (w:World) (args:Array Value) (K:Int) (z2:Nat) (Y2:List Int):Prop:=∀W,Below w.heap.size w W→Calls Tryz.prog 60 args W fun e w'=>∃a7 c7,e = .returned (.agg #[.int .i64 K,.int .i64 K,.slice a7 z2 c7])∧(∀b2 o2,a7=some ⟨b2,o2,none⟩→W.heap.size≤b2)∧IC w' a7 z2 Y2∧Below W.heap.size W w'
@[reducible] def tS (w:World) (m:Int) (R3:Int) (k3 k4:Nat) (X3 X4:List Int):Prop:=∀W,Below w.heap.size w W→Calls Tryz.prog 64 #[.int .i64 m] W fun e w'=>∃a8 c8 a9 c9,e = .returned (.tuple #[.agg #[.int .i64 R3,.int .i64 R3,.slice a8 k3 c8],.agg #[.int .i64 R3,.int .i64 R3,.slice a9 k4 c9]])∧IC w' a8 k3 X3∧IC w' a9 k4 X4∧Below W.heap.size W w'
@[reducible] def tM (w:World) (m:Int) (k5 NN:Nat) (css:List (List Int)):Prop:=∀W,Below w.heap.size w W→Calls Tryz.prog 65 #[.int .i64 m] W fun e w'=>∃a6 c6,e = .returned (.slice a6 k5 c6)∧GL w' a6 k5 NN css∧Below W.heap.size W w'
theorem ltab_g (r C:Int) (a:Option Addr) (n c:Nat) (m A B:Int) (w:World) (h0:300<n):Calls Tryz.prog 11 #[.agg #[.int .i64 r,.int .i64 C,.slice a n c],.int .i64 m,.agg #[.int .i64 A,.int .i64 B]] w fun e w'=>e = .returned (.bool true)∧Below w.heap.size w w':=by
 have hg0:decide ((300:Int)<(n:Int))=true:=decide_eq_true (by omega)
 go_enter Tryz.func11,Tryz.ntmps11
 go_upto_region 1 with fail
 have fsz:((w.alloc (.cells #[.int .i64 r,.int .i64 C,.slice a n c] 24)).alloc (.cells #[.int .i64 A,.int .i64 B] 62)).heap.size=w.heap.size+2:=by simp only[World.size_alloc] <;> omega
 have fB:Below w.heap.size w ((w.alloc (.cells #[.int .i64 r,.int .i64 C,.slice a n c] 24)).alloc (.cells #[.int .i64 A,.int .i64 B] 62)):=((Below.refl _ _).alloc (Nat.le_refl _) _).alloc (by simp only[World.size_alloc];omega) _
 have fq0:((w.alloc (.cells #[.int .i64 r,.int .i64 C,.slice a n c] 24)).alloc (.cells #[.int .i64 A,.int .i64 B] 62)).heap[w.heap.size]?=some (.cells #[.int .i64 r,.int .i64 C,.slice a n c] 24 (0,0)):=by have h:=World.alloc_heap_new w (.cells #[.int .i64 r,.int .i64 C,.slice a n c] 24);exact (Below.heap_alloc _ _ _ (by simp only[World.size_alloc];omega)).trans (h)
 have fq1:((w.alloc (.cells #[.int .i64 r,.int .i64 C,.slice a n c] 24)).alloc (.cells #[.int .i64 A,.int .i64 B] 62)).heap[w.heap.size+1]?=some (.cells #[.int .i64 A,.int .i64 B] 62 (0,0)):=by have h:=World.alloc_heap_new (w.alloc (.cells #[.int .i64 r,.int .i64 C,.slice a n c] 24)) (.cells #[.int .i64 A,.int .i64 B] 62);simp only[World.size_alloc] at h;exact h
 generalize ((w.alloc (.cells #[.int .i64 r,.int .i64 C,.slice a n c] 24)).alloc (.cells #[.int .i64 A,.int .i64 B] 62))=W0 at fsz fB fq0 fq1 ⊢
 have Q0:=Lib.hid fq0
 have Q1:=Lib.hid fq1
 have HB:=Lib.hid fB
 clear fq0 fq1 fsz fB
 obtain ⟨x0,x1,x2,xl⟩:=c3_of Q0.out
 go_wp2_with (first|(go_at_call 19;refine (lgreat_c r C a n c 300 _).mono ?_;rintro _ g1 ⟨rfl,hbg1⟩)|(go_at_call 20;refine (awake4_c _).mono ?_;rintro _ wz ⟨rfl,hbz⟩)|fail)
 refine bodyPost_ret (v := .bool true) ?_ rfl ⟨rfl,keep_trans HB.out (keep_trans hbg1 hbz)⟩
 simp[results,Tryz.f11,go_sem]
theorem ltab_A (r C:Int) (a:Option Addr) (n c:Nat) (m A B:Int) (w:World) (h0:¬300<n) (ea:Int) (R1:Int) (k1:Nat) (X1:List Int) (er1:Int) (R2:Int) (k2:Nat) (X2:List Int) (er2:Int) (R3:Int) (k3 k4:Nat) (X3 X4:List Int) (er3:Int) (k5 NN:Nat) (css:List (List Int)) (hk5:k5≤1000) (er5:Int) (bad:Int) (hbad:bad≠0) (he5:er5=bad) (hk0:k5=0) (m1:madeB R1 R1 X1 er1 0 0 [] bad=true) (m2:madeB R2 R2 X2 er2 0 0 [] bad=true) (m3:madeB R3 R3 X3 er3 0 0 [] bad=true) (m4:sameG R3 R3 X4 0 0 []=true)
  (H1:tG w 54 #[.int .i64 m] R1 k1 X1 er1) (H2:tG w 55 #[.int .i64 m,.int .i64 A,.int .i64 B] R2 k2 X2 er2) (H3:tF w m R3 k3 k4 X3 X4 er3) (H4:tL w m k5 NN css er5) (H5:tH w 58 #[.agg #[.int .i64 r,.int .i64 C,.slice a n c]] (.int .i64 ea)) (H6:tH w 22 #[.agg #[.int .i64 r,.int .i64 C,.slice a n c]] (.int .i64 ea)) (H7:∀W,Calls Tryz.prog 59 #[.int .i64 m] W fun e w'=>e = .returned (.int .i64 bad)∧Below W.heap.size W w'):Calls Tryz.prog 11 #[.agg #[.int .i64 r,.int .i64 C,.slice a n c],.int .i64 m,.agg #[.int .i64 A,.int .i64 B]] w fun e w'=>e = .returned (.bool true)∧Below w.heap.size w w':=by
 subst hk0
 subst he5
 have hg0:decide ((300:Int)<(n:Int))=false:=decide_eq_false (by omega)
 have e1:(ea != ea)=false:=by simp
 have e2:(er5 != 0)=true:=by simpa using hbad
 have e3:(er5==er5)=true:=by simp
 clear hbad
 have H1:=Lib.hid H1
 have H2:=Lib.hid H2
 have H3:=Lib.hid H3
 have H4:=Lib.hid H4
 have H5:=Lib.hid H5
 have H6:=Lib.hid H6
 have hk5:=Lib.hid hk5
 have H7:=Lib.hid H7
 have m1:=Lib.hid m1
 have m2:=Lib.hid m2
 have m3:=Lib.hid m3
 have m4:=Lib.hid m4
 go_enter Tryz.func11,Tryz.ntmps11
 go_upto_region 1 with fail
 have fsz:((w.alloc (.cells #[.int .i64 r,.int .i64 C,.slice a n c] 24)).alloc (.cells #[.int .i64 A,.int .i64 B] 62)).heap.size=w.heap.size+2:=by simp only[World.size_alloc] <;> omega
 have fB:Below w.heap.size w ((w.alloc (.cells #[.int .i64 r,.int .i64 C,.slice a n c] 24)).alloc (.cells #[.int .i64 A,.int .i64 B] 62)):=((Below.refl _ _).alloc (Nat.le_refl _) _).alloc (by simp only[World.size_alloc];omega) _
 have fq0:((w.alloc (.cells #[.int .i64 r,.int .i64 C,.slice a n c] 24)).alloc (.cells #[.int .i64 A,.int .i64 B] 62)).heap[w.heap.size]?=some (.cells #[.int .i64 r,.int .i64 C,.slice a n c] 24 (0,0)):=by have h:=World.alloc_heap_new w (.cells #[.int .i64 r,.int .i64 C,.slice a n c] 24);exact (Below.heap_alloc _ _ _ (by simp only[World.size_alloc];omega)).trans (h)
 have fq1:((w.alloc (.cells #[.int .i64 r,.int .i64 C,.slice a n c] 24)).alloc (.cells #[.int .i64 A,.int .i64 B] 62)).heap[w.heap.size+1]?=some (.cells #[.int .i64 A,.int .i64 B] 62 (0,0)):=by have h:=World.alloc_heap_new (w.alloc (.cells #[.int .i64 r,.int .i64 C,.slice a n c] 24)) (.cells #[.int .i64 A,.int .i64 B] 62);simp only[World.size_alloc] at h;exact h
 generalize ((w.alloc (.cells #[.int .i64 r,.int .i64 C,.slice a n c] 24)).alloc (.cells #[.int .i64 A,.int .i64 B] 62))=W0 at fsz fB fq0 fq1 ⊢
 have Q0:=Lib.hid fq0
 have Q1:=Lib.hid fq1
 have HB:=Lib.hid fB
 clear fq0 fq1 fsz fB
 obtain ⟨x0,x1,x2,xl⟩:=c3_of Q0.out
 go_upto_region 3 with (first|(go_at_call 19;(with_reducible refine (lgreat_c r C a n c 300 _).mono ?_);rintro _ g1 ⟨rfl,hbg1⟩)|fail)
 clear x0 x1 x2 xl
 have hmv:Below W0.heap.size W0 g1:=hbg1
 replace Q0:=Lib.hid (keepq hmv Q0.out)
 replace Q1:=Lib.hid (keepq hmv Q1.out)
 replace HB:=Lib.hid (keep_trans HB.out hmv)
 clear hmv hbg1
 go_upto_region 4 with (first|(go_at_call 54;(with_reducible refine (H1.out _ HB.out).mono ?_);rintro _ u1 ⟨a1,c1,rfl,ia,hbu1⟩)|fail)
 have gsz:(u1.alloc (.cells #[.int .i64 R1,.int .i64 R1,.slice a1 k1 c1] 24)).heap.size=u1.heap.size+1:=by simp only[World.size_alloc]
 have gB:Below u1.heap.size u1 (u1.alloc (.cells #[.int .i64 R1,.int .i64 R1,.slice a1 k1 c1] 24)):=(Below.refl _ _).alloc (Nat.le_refl _) _
 have gq0:(u1.alloc (.cells #[.int .i64 R1,.int .i64 R1,.slice a1 k1 c1] 24)).heap[u1.heap.size]?=some (.cells #[.int .i64 R1,.int .i64 R1,.slice a1 k1 c1] 24 (0,0)):=by have h:=World.alloc_heap_new u1 (.cells #[.int .i64 R1,.int .i64 R1,.slice a1 k1 c1] 24);exact h
 generalize (u1.alloc (.cells #[.int .i64 R1,.int .i64 R1,.slice a1 k1 c1] 24))=V1 at gsz gB gq0 ⊢
 have hmv:Below g1.heap.size g1 V1:=keep_trans hbu1 gB
 replace Q0:=Lib.hid (keepq hmv Q0.out)
 replace Q1:=Lib.hid (keepq hmv Q1.out)
 replace HB:=Lib.hid (keep_trans HB.out hmv)
 clear hmv
 have Q7:=Lib.hid gq0
 have IA:=Lib.hid (ia.mono gB)
 clear hbu1 gsz gq0 gB ia
 obtain ⟨y0,y1,yl⟩:=c2_of Q1.out
 go_upto_region 5 with (first|(go_at_call 55;(with_reducible refine (H2.out _ HB.out).mono ?_);rintro _ u2 ⟨a2,c2,rfl,ib,hbu2⟩)|fail)
 have hsz:(u2.alloc (.cells #[.int .i64 R2,.int .i64 R2,.slice a2 k2 c2] 24)).heap.size=u2.heap.size+1:=by simp only[World.size_alloc]
 have hB:Below u2.heap.size u2 (u2.alloc (.cells #[.int .i64 R2,.int .i64 R2,.slice a2 k2 c2] 24)):=(Below.refl _ _).alloc (Nat.le_refl _) _
 have hq0:(u2.alloc (.cells #[.int .i64 R2,.int .i64 R2,.slice a2 k2 c2] 24)).heap[u2.heap.size]?=some (.cells #[.int .i64 R2,.int .i64 R2,.slice a2 k2 c2] 24 (0,0)):=by have h:=World.alloc_heap_new u2 (.cells #[.int .i64 R2,.int .i64 R2,.slice a2 k2 c2] 24);exact h
 generalize (u2.alloc (.cells #[.int .i64 R2,.int .i64 R2,.slice a2 k2 c2] 24))=V2 at hsz hB hq0 ⊢
 clear y0 y1 yl
 have hmv:Below V1.heap.size V1 V2:=keep_trans hbu2 hB
 replace Q0:=Lib.hid (keepq hmv Q0.out)
 replace Q1:=Lib.hid (keepq hmv Q1.out)
 replace Q7:=Lib.hid (keepq hmv Q7.out)
 replace IA:=Lib.hid (IA.out.mono hmv)
 replace HB:=Lib.hid (keep_trans HB.out hmv)
 clear hmv
 have Q9:=Lib.hid hq0
 have IB:=Lib.hid (ib.mono hB)
 clear hbu2 hsz hq0 hB ib
 go_upto_region 6 with (first|(go_at_call 56;(with_reducible refine (H3.out _ HB.out).mono ?_);rintro _ u3 ⟨a3,c3,a4,c4,rfl,ic3,id4,hbu3⟩)|fail)
 have gsz:((u3.alloc (.cells #[.int .i64 R3,.int .i64 R3,.slice a3 k3 c3] 24)).alloc (.cells #[.int .i64 R3,.int .i64 R3,.slice a4 k4 c4] 24)).heap.size=u3.heap.size+2:=by simp only[World.size_alloc] <;> omega
 have gB:Below u3.heap.size u3 ((u3.alloc (.cells #[.int .i64 R3,.int .i64 R3,.slice a3 k3 c3] 24)).alloc (.cells #[.int .i64 R3,.int .i64 R3,.slice a4 k4 c4] 24)):=((Below.refl _ _).alloc (Nat.le_refl _) _).alloc (by simp only[World.size_alloc];omega) _
 have gq0:((u3.alloc (.cells #[.int .i64 R3,.int .i64 R3,.slice a3 k3 c3] 24)).alloc (.cells #[.int .i64 R3,.int .i64 R3,.slice a4 k4 c4] 24)).heap[u3.heap.size]?=some (.cells #[.int .i64 R3,.int .i64 R3,.slice a3 k3 c3] 24 (0,0)):=by have h:=World.alloc_heap_new u3 (.cells #[.int .i64 R3,.int .i64 R3,.slice a3 k3 c3] 24);exact (Below.heap_alloc _ _ _ (by simp only[World.size_alloc];omega)).trans (h)
 have gq1:((u3.alloc (.cells #[.int .i64 R3,.int .i64 R3,.slice a3 k3 c3] 24)).alloc (.cells #[.int .i64 R3,.int .i64 R3,.slice a4 k4 c4] 24)).heap[u3.heap.size+1]?=some (.cells #[.int .i64 R3,.int .i64 R3,.slice a4 k4 c4] 24 (0,0)):=by have h:=World.alloc_heap_new (u3.alloc (.cells #[.int .i64 R3,.int .i64 R3,.slice a3 k3 c3] 24)) (.cells #[.int .i64 R3,.int .i64 R3,.slice a4 k4 c4] 24);simp only[World.size_alloc] at h;exact h
 generalize ((u3.alloc (.cells #[.int .i64 R3,.int .i64 R3,.slice a3 k3 c3] 24)).alloc (.cells #[.int .i64 R3,.int .i64 R3,.slice a4 k4 c4] 24))=V3 at gsz gB gq0 gq1 ⊢
 have hmv:Below V2.heap.size V2 V3:=keep_trans hbu3 gB
 replace Q0:=Lib.hid (keepq hmv Q0.out)
 replace Q1:=Lib.hid (keepq hmv Q1.out)
 replace Q7:=Lib.hid (keepq hmv Q7.out)
 replace Q9:=Lib.hid (keepq hmv Q9.out)
 replace IA:=Lib.hid (IA.out.mono hmv)
 replace IB:=Lib.hid (IB.out.mono hmv)
 replace HB:=Lib.hid (keep_trans HB.out hmv)
 clear hmv
 have Q11:=Lib.hid gq0
 have Q12:=Lib.hid gq1
 have IE:=Lib.hid (ic3.mono gB)
 have ID:=Lib.hid (id4.mono gB)
 clear hbu3 gsz gq0 gq1 gB ic3 id4
 go_upto_region 7 with (first|(go_at_call 57;(with_reducible refine (H4.out _ HB.out).mono ?_);rintro _ u4 ⟨a5,c5,rfl,gl5,hbu4⟩)|fail)
 have hmv:Below V3.heap.size V3 u4:=hbu4
 replace Q0:=Lib.hid (keepq hmv Q0.out)
 replace Q1:=Lib.hid (keepq hmv Q1.out)
 replace Q7:=Lib.hid (keepq hmv Q7.out)
 replace Q9:=Lib.hid (keepq hmv Q9.out)
 replace Q11:=Lib.hid (keepq hmv Q11.out)
 replace Q12:=Lib.hid (keepq hmv Q12.out)
 replace IA:=Lib.hid (IA.out.mono hmv)
 replace IB:=Lib.hid (IB.out.mono hmv)
 replace IE:=Lib.hid (IE.out.mono hmv)
 replace ID:=Lib.hid (ID.out.mono hmv)
 replace HB:=Lib.hid (keep_trans HB.out hmv)
 clear hmv
 have GF:=Lib.hid gl5
 clear hbu4 gl5
 obtain ⟨x0,x1,x2,xl⟩:=c3_of Q0.out
 refine wp_region_S (fun w'=>∃u,w'=over (u4) u) [] [(0,0),(0,2),(1,1),(1,3),(0,4)] (by kernel_rfl) (by kernel_rfl) (by exact ⟨_,below_over (by repeat (first|assumption|exact Below.refl _ _|refine keep_drew ?_|refine keep_alloc ?_ _|refine keep_trans ?_ (by assumption)))⟩) ?_
 dsimp only[pickOps,nthOp]
 repeat (first|(refine wpS_skip rfl (fun K hK=>?_);go_big_quiet_op;refine hK _ ?_;clear hK K)|(refine wpS_quiet rfl rfl (fun K hK=>?_);go_big_quiet_op;refine hK _ ?_;clear hK K)|(refine wpS_loud ?_;go_wp2_with (first|(go_at_call 58;(with_reducible refine (H5.out _ (keep_trans HB.out (by (repeat (first|assumption|exact Below.refl _ _|refine keep_drew ?_|refine keep_alloc ?_ _|refine keep_trans ?_ (by assumption)))))).mono ?_);rintro _ u5 ⟨rfl,hbu5⟩)|(go_at_call 22;(with_reducible refine (H6.out _ (keep_trans HB.out (by (repeat (first|assumption|exact Below.refl _ _|refine keep_drew ?_|refine keep_alloc ?_ _|refine keep_trans ?_ (by assumption)))))).mono ?_);rintro _ u6 ⟨rfl,hbu6⟩)|fail);refine ⟨?_,?_⟩;focus (exact ⟨_,below_over (by repeat (first|assumption|exact Below.refl _ _|refine keep_drew ?_|refine keep_alloc ?_ _|refine keep_trans ?_ (by assumption)))⟩)))
 refine wpS_end ?_
 clear x0 x1 x2 xl
 have hmv:Below u4.heap.size u4 u6:=(by (repeat (first|assumption|exact Below.refl _ _|refine keep_drew ?_|refine keep_alloc ?_ _|refine keep_trans ?_ (by assumption))))
 replace Q0:=Lib.hid (keepq hmv Q0.out)
 replace Q1:=Lib.hid (keepq hmv Q1.out)
 replace Q7:=Lib.hid (keepq hmv Q7.out)
 replace Q9:=Lib.hid (keepq hmv Q9.out)
 replace Q11:=Lib.hid (keepq hmv Q11.out)
 replace Q12:=Lib.hid (keepq hmv Q12.out)
 replace IA:=Lib.hid (IA.out.mono hmv)
 replace IB:=Lib.hid (IB.out.mono hmv)
 replace IE:=Lib.hid (IE.out.mono hmv)
 replace ID:=Lib.hid (ID.out.mono hmv)
 replace GF:=Lib.hid (GF.out.below hmv)
 replace HB:=Lib.hid (keep_trans HB.out hmv)
 clear hmv hbu5 hbu6
 go_upto_region 10 with (first|(go_at_call 59;(with_reducible refine (H7.out _).mono ?_);rintro _ u7 ⟨rfl,hbu7⟩)|fail)
 have hmv:Below u6.heap.size u6 u7:=hbu7
 replace Q0:=Lib.hid (keepq hmv Q0.out)
 replace Q1:=Lib.hid (keepq hmv Q1.out)
 replace Q7:=Lib.hid (keepq hmv Q7.out)
 replace Q9:=Lib.hid (keepq hmv Q9.out)
 replace Q11:=Lib.hid (keepq hmv Q11.out)
 replace Q12:=Lib.hid (keepq hmv Q12.out)
 replace IA:=Lib.hid (IA.out.mono hmv)
 replace IB:=Lib.hid (IB.out.mono hmv)
 replace IE:=Lib.hid (IE.out.mono hmv)
 replace ID:=Lib.hid (ID.out.mono hmv)
 replace GF:=Lib.hid (GF.out.below hmv)
 replace HB:=Lib.hid (keep_trans HB.out hmv)
 clear hmv hbu7
 obtain ⟨p0,p1,p2,pl⟩:=c3_of Q7.out
 have M1:=Lib.hid (fun W (hb:Below u7.heap.size u7 W)=>lmade_v R1 R1 a1 k1 c1 X1 er1 0 0 none 0 0 [] er5 W true m1.out (IA.out.mono hb) ⟨⟨rfl,by omega⟩,fun k hk=>absurd hk (by omega)⟩)
 have M2:=Lib.hid (fun W (hb:Below u7.heap.size u7 W)=>lmade_v R2 R2 a2 k2 c2 X2 er2 0 0 none 0 0 [] er5 W true m2.out (IB.out.mono hb) ⟨⟨rfl,by omega⟩,fun k hk=>absurd hk (by omega)⟩)
 have M3:=Lib.hid (fun W (hb:Below u7.heap.size u7 W)=>lmade_v R3 R3 a3 k3 c3 X3 er3 0 0 none 0 0 [] er5 W true m3.out (IE.out.mono hb) ⟨⟨rfl,by omega⟩,fun k hk=>absurd hk (by omega)⟩)
 have SM:=Lib.hid (fun W (hb:Below u7.heap.size u7 W)=>rsame_c R3 R3 a4 k4 c4 X4 0 0 none 0 0 [] W (ID.out.mono hb) ⟨⟨rfl,by omega⟩,fun k hk=>absurd hk (by omega)⟩)
 rw[m4.out] at SM
 go_wp2_with (first|(go_at_call 24;(with_reducible refine (M1.out _ (Below.refl _ _)).mono ?_);rintro _ t1 ⟨rfl,hbt1⟩;have hkt1:Below u7.heap.size u7 t1:=hbt1;obtain ⟨qt10,qt11,qt12,qt1l⟩:=c3_of (keepq hkt1 Q9.out))|(go_at_call 24;(with_reducible refine (M2.out _ (hkt1)).mono ?_);rintro _ t2 ⟨rfl,hbt2⟩;have hkt2:Below u7.heap.size u7 t2:=keep_trans hkt1 hbt2;obtain ⟨st20,st21,st22,st2l⟩:=c3_of (keepq hkt2 Q11.out))|(go_at_call 24;(with_reducible refine (M3.out _ (hkt2)).mono ?_);rintro _ t3 ⟨rfl,hbt3⟩;have hkt3:Below u7.heap.size u7 t3:=keep_trans hkt2 hbt3;obtain ⟨tt30,tt31,tt32,tt3l⟩:=c3_of (keepq hkt3 Q12.out))|(go_at_call 43;(with_reducible refine (SM.out _ (hkt3)).mono ?_);rintro _ t4 ⟨rfl,hbt4⟩;have hkt4:Below u7.heap.size u7 t4:=keep_trans hkt3 hbt4)|(go_at_call 20;refine (awake4_c _).mono ?_;rintro _ wz ⟨rfl,hbz⟩)|fail)
 refine bodyPost_ret (v := .bool true) ?_ rfl ⟨rfl,keep_trans HB.out (keep_trans hkt4 hbz)⟩
 simp[results,Tryz.f11,go_sem]
theorem ltab_RF (r C:Int) (a:Option Addr) (n c:Nat) (m A B:Int) (w:World) (h0:¬300<n) (ea:Int) (R1:Int) (k1:Nat) (X1:List Int) (er1:Int) (R2:Int) (k2:Nat) (X2:List Int) (er2:Int) (R3:Int) (k3 k4:Nat) (X3 X4:List Int) (er3:Int) (k5 NN:Nat) (css:List (List Int)) (hk5:k5≤1000) (er5:Int) (z1:Nat) (Y1:List Int) (m1:madeB R1 R1 X1 er1 m m Y1 0=true) (hbt:btF A B 2=3) (m2:madeB R2 R2 X2 er2 0 0 [] 3=true) (he5:er5=0) (m3:madeB R3 R3 X3 er3 R3 R3 X3 0=true) (m4:sameG R3 R3 X4 R3 R3 X4=true)
  (H1:tG w 54 #[.int .i64 m] R1 k1 X1 er1) (H2:tG w 55 #[.int .i64 m,.int .i64 A,.int .i64 B] R2 k2 X2 er2) (H3:tF w m R3 k3 k4 X3 X4 er3) (H4:tL w m k5 NN css er5) (H5:tH w 58 #[.agg #[.int .i64 r,.int .i64 C,.slice a n c]] (.int .i64 ea)) (H6:tH w 22 #[.agg #[.int .i64 r,.int .i64 C,.slice a n c]] (.int .i64 ea)) (H7:∀W,Calls Tryz.prog 59 #[.int .i64 m] W fun e w'=>e = .returned (.int .i64 0)∧Below W.heap.size W w') (H8:tR w #[.int .i64 m,.int .i64 1,.int .i64 1] m z1 Y1) (HF:tH w 63 #[.int .i64 m] (.bool true)) (HG:tS w m R3 k3 k4 X3 X4) (HI:tM w m k5 NN css):Calls Tryz.prog 11 #[.agg #[.int .i64 r,.int .i64 C,.slice a n c],.int .i64 m,.agg #[.int .i64 A,.int .i64 B]] w fun e w'=>e = .returned (.bool true)∧Below w.heap.size w w':=by
 subst he5
 have hg0:decide ((300:Int)<(n:Int))=false:=decide_eq_false (by omega)
 have e1:(ea != ea)=false:=by simp
 have H1:=Lib.hid H1
 have H2:=Lib.hid H2
 have H3:=Lib.hid H3
 have H4:=Lib.hid H4
 have H5:=Lib.hid H5
 have H6:=Lib.hid H6
 have hk5:=Lib.hid hk5
 have H7:=Lib.hid H7
 have m1:=Lib.hid m1
 have H8:=Lib.hid H8
 have m2:=Lib.hid m2
 have hbt:=Lib.hid hbt
 have HF:=Lib.hid HF
 have HG:=Lib.hid HG
 have HI:=Lib.hid HI
 have m3:=Lib.hid m3
 have m4:=Lib.hid m4
 clear h0
 go_enter Tryz.func11,Tryz.ntmps11
 go_upto_region 1 with fail
 have fsz:((w.alloc (.cells #[.int .i64 r,.int .i64 C,.slice a n c] 24)).alloc (.cells #[.int .i64 A,.int .i64 B] 62)).heap.size=w.heap.size+2:=by simp only[World.size_alloc] <;> omega
 have fB:Below w.heap.size w ((w.alloc (.cells #[.int .i64 r,.int .i64 C,.slice a n c] 24)).alloc (.cells #[.int .i64 A,.int .i64 B] 62)):=((Below.refl _ _).alloc (Nat.le_refl _) _).alloc (by simp only[World.size_alloc];omega) _
 have fq0:((w.alloc (.cells #[.int .i64 r,.int .i64 C,.slice a n c] 24)).alloc (.cells #[.int .i64 A,.int .i64 B] 62)).heap[w.heap.size]?=some (.cells #[.int .i64 r,.int .i64 C,.slice a n c] 24 (0,0)):=by have h:=World.alloc_heap_new w (.cells #[.int .i64 r,.int .i64 C,.slice a n c] 24);exact (Below.heap_alloc _ _ _ (by simp only[World.size_alloc];omega)).trans (h)
 have fq1:((w.alloc (.cells #[.int .i64 r,.int .i64 C,.slice a n c] 24)).alloc (.cells #[.int .i64 A,.int .i64 B] 62)).heap[w.heap.size+1]?=some (.cells #[.int .i64 A,.int .i64 B] 62 (0,0)):=by have h:=World.alloc_heap_new (w.alloc (.cells #[.int .i64 r,.int .i64 C,.slice a n c] 24)) (.cells #[.int .i64 A,.int .i64 B] 62);simp only[World.size_alloc] at h;exact h
 generalize ((w.alloc (.cells #[.int .i64 r,.int .i64 C,.slice a n c] 24)).alloc (.cells #[.int .i64 A,.int .i64 B] 62))=W0 at fsz fB fq0 fq1 ⊢
 have Q0:=Lib.hid fq0
 have Q1:=Lib.hid fq1
 have HB:=Lib.hid fB
 clear fq0 fq1 fsz fB
 obtain ⟨x0,x1,x2,xl⟩:=c3_of Q0.out
 go_upto_region 3 with (first|(go_at_call 19;(with_reducible refine (lgreat_c r C a n c 300 _).mono ?_);rintro _ g1 ⟨rfl,hbg1⟩)|fail)
 clear x0 x1 x2 xl
 have hmv:Below W0.heap.size W0 g1:=hbg1
 replace Q0:=Lib.hid (keepq hmv Q0.out)
 replace Q1:=Lib.hid (keepq hmv Q1.out)
 replace HB:=Lib.hid (keep_trans HB.out hmv)
 clear hmv hbg1
 go_upto_region 4 with (first|(go_at_call 54;(with_reducible refine (H1.out _ HB.out).mono ?_);rintro _ u1 ⟨a1,c1,rfl,ia,hbu1⟩)|fail)
 have gsz:(u1.alloc (.cells #[.int .i64 R1,.int .i64 R1,.slice a1 k1 c1] 24)).heap.size=u1.heap.size+1:=by simp only[World.size_alloc]
 have gB:Below u1.heap.size u1 (u1.alloc (.cells #[.int .i64 R1,.int .i64 R1,.slice a1 k1 c1] 24)):=(Below.refl _ _).alloc (Nat.le_refl _) _
 have gq0:(u1.alloc (.cells #[.int .i64 R1,.int .i64 R1,.slice a1 k1 c1] 24)).heap[u1.heap.size]?=some (.cells #[.int .i64 R1,.int .i64 R1,.slice a1 k1 c1] 24 (0,0)):=by have h:=World.alloc_heap_new u1 (.cells #[.int .i64 R1,.int .i64 R1,.slice a1 k1 c1] 24);exact h
 generalize (u1.alloc (.cells #[.int .i64 R1,.int .i64 R1,.slice a1 k1 c1] 24))=V1 at gsz gB gq0 ⊢
 have hmv:Below g1.heap.size g1 V1:=keep_trans hbu1 gB
 replace Q0:=Lib.hid (keepq hmv Q0.out)
 replace Q1:=Lib.hid (keepq hmv Q1.out)
 replace HB:=Lib.hid (keep_trans HB.out hmv)
 clear hmv
 have Q7:=Lib.hid gq0
 have IA:=Lib.hid (ia.mono gB)
 clear hbu1 gsz gq0 gB ia
 obtain ⟨y0,y1,yl⟩:=c2_of Q1.out
 go_upto_region 5 with (first|(go_at_call 55;(with_reducible refine (H2.out _ HB.out).mono ?_);rintro _ u2 ⟨a2,c2,rfl,ib,hbu2⟩)|fail)
 have hsz:(u2.alloc (.cells #[.int .i64 R2,.int .i64 R2,.slice a2 k2 c2] 24)).heap.size=u2.heap.size+1:=by simp only[World.size_alloc]
 have hB:Below u2.heap.size u2 (u2.alloc (.cells #[.int .i64 R2,.int .i64 R2,.slice a2 k2 c2] 24)):=(Below.refl _ _).alloc (Nat.le_refl _) _
 have hq0:(u2.alloc (.cells #[.int .i64 R2,.int .i64 R2,.slice a2 k2 c2] 24)).heap[u2.heap.size]?=some (.cells #[.int .i64 R2,.int .i64 R2,.slice a2 k2 c2] 24 (0,0)):=by have h:=World.alloc_heap_new u2 (.cells #[.int .i64 R2,.int .i64 R2,.slice a2 k2 c2] 24);exact h
 generalize (u2.alloc (.cells #[.int .i64 R2,.int .i64 R2,.slice a2 k2 c2] 24))=V2 at hsz hB hq0 ⊢
 clear y0 y1 yl
 have hmv:Below V1.heap.size V1 V2:=keep_trans hbu2 hB
 replace Q0:=Lib.hid (keepq hmv Q0.out)
 replace Q1:=Lib.hid (keepq hmv Q1.out)
 replace Q7:=Lib.hid (keepq hmv Q7.out)
 replace IA:=Lib.hid (IA.out.mono hmv)
 replace HB:=Lib.hid (keep_trans HB.out hmv)
 clear hmv
 have Q9:=Lib.hid hq0
 have IB:=Lib.hid (ib.mono hB)
 clear hbu2 hsz hq0 hB ib
 go_upto_region 6 with (first|(go_at_call 56;(with_reducible refine (H3.out _ HB.out).mono ?_);rintro _ u3 ⟨a3,c3,a4,c4,rfl,ic3,id4,hbu3⟩)|fail)
 have gsz:((u3.alloc (.cells #[.int .i64 R3,.int .i64 R3,.slice a3 k3 c3] 24)).alloc (.cells #[.int .i64 R3,.int .i64 R3,.slice a4 k4 c4] 24)).heap.size=u3.heap.size+2:=by simp only[World.size_alloc] <;> omega
 have gB:Below u3.heap.size u3 ((u3.alloc (.cells #[.int .i64 R3,.int .i64 R3,.slice a3 k3 c3] 24)).alloc (.cells #[.int .i64 R3,.int .i64 R3,.slice a4 k4 c4] 24)):=((Below.refl _ _).alloc (Nat.le_refl _) _).alloc (by simp only[World.size_alloc];omega) _
 have gq0:((u3.alloc (.cells #[.int .i64 R3,.int .i64 R3,.slice a3 k3 c3] 24)).alloc (.cells #[.int .i64 R3,.int .i64 R3,.slice a4 k4 c4] 24)).heap[u3.heap.size]?=some (.cells #[.int .i64 R3,.int .i64 R3,.slice a3 k3 c3] 24 (0,0)):=by have h:=World.alloc_heap_new u3 (.cells #[.int .i64 R3,.int .i64 R3,.slice a3 k3 c3] 24);exact (Below.heap_alloc _ _ _ (by simp only[World.size_alloc];omega)).trans (h)
 have gq1:((u3.alloc (.cells #[.int .i64 R3,.int .i64 R3,.slice a3 k3 c3] 24)).alloc (.cells #[.int .i64 R3,.int .i64 R3,.slice a4 k4 c4] 24)).heap[u3.heap.size+1]?=some (.cells #[.int .i64 R3,.int .i64 R3,.slice a4 k4 c4] 24 (0,0)):=by have h:=World.alloc_heap_new (u3.alloc (.cells #[.int .i64 R3,.int .i64 R3,.slice a3 k3 c3] 24)) (.cells #[.int .i64 R3,.int .i64 R3,.slice a4 k4 c4] 24);simp only[World.size_alloc] at h;exact h
 generalize ((u3.alloc (.cells #[.int .i64 R3,.int .i64 R3,.slice a3 k3 c3] 24)).alloc (.cells #[.int .i64 R3,.int .i64 R3,.slice a4 k4 c4] 24))=V3 at gsz gB gq0 gq1 ⊢
 have hmv:Below V2.heap.size V2 V3:=keep_trans hbu3 gB
 replace Q0:=Lib.hid (keepq hmv Q0.out)
 replace Q1:=Lib.hid (keepq hmv Q1.out)
 replace Q7:=Lib.hid (keepq hmv Q7.out)
 replace Q9:=Lib.hid (keepq hmv Q9.out)
 replace IA:=Lib.hid (IA.out.mono hmv)
 replace IB:=Lib.hid (IB.out.mono hmv)
 replace HB:=Lib.hid (keep_trans HB.out hmv)
 clear hmv
 have Q11:=Lib.hid gq0
 have Q12:=Lib.hid gq1
 have IE:=Lib.hid (ic3.mono gB)
 have ID:=Lib.hid (id4.mono gB)
 clear hbu3 gsz gq0 gq1 gB ic3 id4
 go_upto_region 7 with (first|(go_at_call 57;(with_reducible refine (H4.out _ HB.out).mono ?_);rintro _ u4 ⟨a5,c5,rfl,gl5,hbu4⟩)|fail)
 have hmv:Below V3.heap.size V3 u4:=hbu4
 replace Q0:=Lib.hid (keepq hmv Q0.out)
 replace Q1:=Lib.hid (keepq hmv Q1.out)
 replace Q7:=Lib.hid (keepq hmv Q7.out)
 replace Q9:=Lib.hid (keepq hmv Q9.out)
 replace Q11:=Lib.hid (keepq hmv Q11.out)
 replace Q12:=Lib.hid (keepq hmv Q12.out)
 replace IA:=Lib.hid (IA.out.mono hmv)
 replace IB:=Lib.hid (IB.out.mono hmv)
 replace IE:=Lib.hid (IE.out.mono hmv)
 replace ID:=Lib.hid (ID.out.mono hmv)
 replace HB:=Lib.hid (keep_trans HB.out hmv)
 clear hmv
 have GF:=Lib.hid gl5
 clear hbu4 gl5
 obtain ⟨x0,x1,x2,xl⟩:=c3_of Q0.out
 refine wp_region_S (fun w'=>∃u,w'=over (u4) u) [] [(0,0),(0,2),(1,1),(1,3),(0,4)] (by kernel_rfl) (by kernel_rfl) (by exact ⟨_,below_over (by repeat (first|assumption|exact Below.refl _ _|refine keep_drew ?_|refine keep_alloc ?_ _|refine keep_trans ?_ (by assumption)))⟩) ?_
 dsimp only[pickOps,nthOp]
 repeat (first|(refine wpS_skip rfl (fun K hK=>?_);go_big_quiet_op;refine hK _ ?_;clear hK K)|(refine wpS_quiet rfl rfl (fun K hK=>?_);go_big_quiet_op;refine hK _ ?_;clear hK K)|(refine wpS_loud ?_;go_wp2_with (first|(go_at_call 58;(with_reducible refine (H5.out _ (keep_trans HB.out (by (repeat (first|assumption|exact Below.refl _ _|refine keep_drew ?_|refine keep_alloc ?_ _|refine keep_trans ?_ (by assumption)))))).mono ?_);rintro _ u5 ⟨rfl,hbu5⟩)|(go_at_call 22;(with_reducible refine (H6.out _ (keep_trans HB.out (by (repeat (first|assumption|exact Below.refl _ _|refine keep_drew ?_|refine keep_alloc ?_ _|refine keep_trans ?_ (by assumption)))))).mono ?_);rintro _ u6 ⟨rfl,hbu6⟩)|fail);refine ⟨?_,?_⟩;focus (exact ⟨_,below_over (by repeat (first|assumption|exact Below.refl _ _|refine keep_drew ?_|refine keep_alloc ?_ _|refine keep_trans ?_ (by assumption)))⟩)))
 refine wpS_end ?_
 clear x0 x1 x2 xl
 have hmv:Below u4.heap.size u4 u6:=(by (repeat (first|assumption|exact Below.refl _ _|refine keep_drew ?_|refine keep_alloc ?_ _|refine keep_trans ?_ (by assumption))))
 replace Q0:=Lib.hid (keepq hmv Q0.out)
 replace Q1:=Lib.hid (keepq hmv Q1.out)
 replace Q7:=Lib.hid (keepq hmv Q7.out)
 replace Q9:=Lib.hid (keepq hmv Q9.out)
 replace Q11:=Lib.hid (keepq hmv Q11.out)
 replace Q12:=Lib.hid (keepq hmv Q12.out)
 replace IA:=Lib.hid (IA.out.mono hmv)
 replace IB:=Lib.hid (IB.out.mono hmv)
 replace IE:=Lib.hid (IE.out.mono hmv)
 replace ID:=Lib.hid (ID.out.mono hmv)
 replace GF:=Lib.hid (GF.out.below hmv)
 replace HB:=Lib.hid (keep_trans HB.out hmv)
 clear hmv hbu5 hbu6
 go_upto_region 10 with (first|(go_at_call 59;(with_reducible refine (H7.out _).mono ?_);rintro _ u7 ⟨rfl,hbu7⟩)|fail)
 have hmv:Below u6.heap.size u6 u7:=hbu7
 replace Q0:=Lib.hid (keepq hmv Q0.out)
 replace Q1:=Lib.hid (keepq hmv Q1.out)
 replace Q7:=Lib.hid (keepq hmv Q7.out)
 replace Q9:=Lib.hid (keepq hmv Q9.out)
 replace Q11:=Lib.hid (keepq hmv Q11.out)
 replace Q12:=Lib.hid (keepq hmv Q12.out)
 replace IA:=Lib.hid (IA.out.mono hmv)
 replace IB:=Lib.hid (IB.out.mono hmv)
 replace IE:=Lib.hid (IE.out.mono hmv)
 replace ID:=Lib.hid (ID.out.mono hmv)
 replace GF:=Lib.hid (GF.out.below hmv)
 replace HB:=Lib.hid (keep_trans HB.out hmv)
 clear hmv hbu7
 obtain ⟨p0,p1,p2,pl⟩:=c3_of Q7.out
 go_upto_region 12 with fail
 have RL:=Lib.hid (fun W (hb:Below u7.heap.size u7 W)=>H8.out W (keep_trans HB.out hb))
 have MA:=Lib.hid (fun W (hb:Below u7.heap.size u7 W) a7 c7 (i7:IC W a7 z1 Y1)=>lmade_v R1 R1 a1 k1 c1 X1 er1 m m a7 z1 c7 Y1 0 W true m1.out (IA.out.mono hb) i7)
 refine wp_region_S (fun w'=>∃u,w'=over (u7) u) [] [(0,0),(0,1),(0,2),(1,3),(1,4),(0,5)] (by kernel_rfl) (by kernel_rfl) (by exact ⟨_,below_over (by repeat (first|assumption|exact Below.refl _ _|refine keep_drew ?_|refine keep_alloc ?_ _|refine keep_trans ?_ (by assumption)))⟩) ?_
 dsimp only[pickOps,nthOp]
 repeat (first|(refine wpS_skip rfl (fun K hK=>?_);go_big_quiet_op;refine hK _ ?_;clear hK K)|(refine wpS_quiet rfl rfl (fun K hK=>?_);go_big_quiet_op;refine hK _ ?_;clear hK K)|(refine wpS_loud ?_;go_wp2_with (first|(go_at_call 60;(with_reducible refine (RL.out _ (by (repeat (first|assumption|exact Below.refl _ _|refine keep_drew ?_|refine keep_alloc ?_ _|refine keep_trans ?_ (by assumption))))).mono ?_);rintro _ t1 ⟨a7,c7,rfl,hf7,i7,hbt1⟩)|(go_at_call 24;(with_reducible refine (MA.out _ (by (repeat (first|assumption|exact Below.refl _ _|refine keep_drew ?_|refine keep_alloc ?_ _|refine keep_trans ?_ (by assumption)))) _ _ i7).mono ?_);rintro _ t2 ⟨rfl,hbt2⟩)|fail);refine ⟨?_,?_⟩;focus (exact ⟨_,below_over (by repeat (first|assumption|exact Below.refl _ _|refine keep_drew ?_|refine keep_alloc ?_ _|refine keep_trans ?_ (by assumption)))⟩)))
 refine wpS_end ?_
 clear p0 p1 p2 pl
 have hmv:Below u7.heap.size u7 t2:=(by (repeat (first|assumption|exact Below.refl _ _|refine keep_drew ?_|refine keep_alloc ?_ _|refine keep_trans ?_ (by assumption))))
 replace Q0:=Lib.hid (keepq hmv Q0.out)
 replace Q1:=Lib.hid (keepq hmv Q1.out)
 replace Q7:=Lib.hid (keepq hmv Q7.out)
 replace Q9:=Lib.hid (keepq hmv Q9.out)
 replace Q11:=Lib.hid (keepq hmv Q11.out)
 replace Q12:=Lib.hid (keepq hmv Q12.out)
 replace IA:=Lib.hid (IA.out.mono hmv)
 replace IB:=Lib.hid (IB.out.mono hmv)
 replace IE:=Lib.hid (IE.out.mono hmv)
 replace ID:=Lib.hid (ID.out.mono hmv)
 replace GF:=Lib.hid (GF.out.below hmv)
 replace HB:=Lib.hid (keep_trans HB.out hmv)
 clear hmv hbt1 hbt2 i7 hf7 RL MA
 obtain ⟨y0,y1,yl⟩:=c2_of Q1.out
 go_upto_region 15 with fail
 go_loopw [16,18,103] (fun s16 _ s103 wr=>∃k:Nat,k≤2∧s103 = .int .i64 (k:Int)∧s16 = .int .i64 (btF A B k)∧wr=t2) (fun _ _ s103 _=>2 - (intOf s103).toNat)
 case atStart=>exact ⟨0,by omega,rfl,rfl,rfl⟩
 case round =>
  obtain ⟨k,hk,rfl,rfl,hwr⟩:=hrel
  replace hwr:=hwr.symm
  subst hwr
  by_cases hk0:k=0
  ·subst hk0
   have b0:Hid (btF A B 1=if farB A=true then 3 else btF A B 0):=rfl
   generalize btF A B 0=bv at b0 ⊢
   by_cases f1:A < -999999999
   ·have d1:decide (A < -999999999)=true:=decide_eq_true f1
    have b1:Hid (btF A B 1=3):=by unfold Hid;rw[b0.out,if_pos (by unfold farB;rw[d1];rfl)]
    clear b0
    go_wp2_with (first|(rw[ix2a])|fail)
    go_roundw
    case rel=>exact ⟨1,by omega,by go_num,by rw[b1.out],trivial⟩
    case measure=>simp[intOf]
   ·have d1:decide (A < -999999999)=false:=decide_eq_false f1
    by_cases f2:999999999<A
    ·have d2:decide (999999999<A)=true:=decide_eq_true f2
     have b1:Hid (btF A B 1=3):=by unfold Hid;rw[b0.out,if_pos (by unfold farB;rw[d1,d2];rfl)]
     clear b0
     go_wp2_with (first|(rw[ix2a])|fail)
     go_roundw
     case rel=>exact ⟨1,by omega,by go_num,by rw[b1.out],trivial⟩
     case measure=>simp[intOf]
    ·have d2:decide (999999999<A)=false:=decide_eq_false f2
     have b1:Hid (btF A B 1=bv):=by unfold Hid;rw[b0.out,if_neg (by unfold farB;rw[d1,d2];decide)]
     clear b0
     go_wp2_with (first|(rw[ix2a])|fail)
     go_roundw
     case rel=>exact ⟨1,by omega,by go_num,by rw[b1.out],trivial⟩
     case measure=>simp[intOf]
  by_cases hk1:k=1
  ·subst hk1
   have b0:Hid (btF A B 2=if farB B=true then 3 else btF A B 1):=rfl
   generalize btF A B 1=bv at b0 ⊢
   by_cases f1:B < -999999999
   ·have d1:decide (B < -999999999)=true:=decide_eq_true f1
    have b1:Hid (btF A B 2=3):=by unfold Hid;rw[b0.out,if_pos (by unfold farB;rw[d1];rfl)]
    clear b0
    go_wp2_with (first|(rw[ix2b])|fail)
    go_roundw
    case rel=>exact ⟨2,by omega,by go_num,by rw[b1.out],trivial⟩
    case measure=>simp[intOf]
   ·have d1:decide (B < -999999999)=false:=decide_eq_false f1
    by_cases f2:999999999<B
    ·have d2:decide (999999999<B)=true:=decide_eq_true f2
     have b1:Hid (btF A B 2=3):=by unfold Hid;rw[b0.out,if_pos (by unfold farB;rw[d1,d2];rfl)]
     clear b0
     go_wp2_with (first|(rw[ix2b])|fail)
     go_roundw
     case rel=>exact ⟨2,by omega,by go_num,by rw[b1.out],trivial⟩
     case measure=>simp[intOf]
    ·have d2:decide (999999999<B)=false:=decide_eq_false f2
     have b1:Hid (btF A B 2=bv):=by unfold Hid;rw[b0.out,if_neg (by unfold farB;rw[d1,d2];decide)]
     clear b0
     go_wp2_with (first|(rw[ix2b])|fail)
     go_roundw
     case rel=>exact ⟨2,by omega,by go_num,by rw[b1.out],trivial⟩
     case measure=>simp[intOf]
  have hk2:k=2:=by omega
  subst hk2
  rw[hbt.out]
  go_upto_region 23 with fail
  have gsz:(t2.alloc (.cells #[.int .i64 0,.int .i64 0,.slice none 0 0] 24)).heap.size=t2.heap.size+1:=by simp only[World.size_alloc]
  have gB:Below t2.heap.size t2 (t2.alloc (.cells #[.int .i64 0,.int .i64 0,.slice none 0 0] 24)):=(Below.refl _ _).alloc (Nat.le_refl _) _
  have gq0:(t2.alloc (.cells #[.int .i64 0,.int .i64 0,.slice none 0 0] 24)).heap[t2.heap.size]?=some (.cells #[.int .i64 0,.int .i64 0,.slice none 0 0] 24 (0,0)):=by have h:=World.alloc_heap_new t2 (.cells #[.int .i64 0,.int .i64 0,.slice none 0 0] 24);exact h
  generalize (t2.alloc (.cells #[.int .i64 0,.int .i64 0,.slice none 0 0] 24))=V9 at gsz gB gq0 ⊢
  have Q19:=Lib.hid gq0
  have GB:=Lib.hid gB
  clear gsz gq0 gB
  clear y0 y1 yl
  have hmv:Below t2.heap.size t2 V9:=GB.out
  replace Q0:=Lib.hid (keepq hmv Q0.out)
  replace Q1:=Lib.hid (keepq hmv Q1.out)
  replace Q7:=Lib.hid (keepq hmv Q7.out)
  replace Q9:=Lib.hid (keepq hmv Q9.out)
  replace Q11:=Lib.hid (keepq hmv Q11.out)
  replace Q12:=Lib.hid (keepq hmv Q12.out)
  replace IA:=Lib.hid (IA.out.mono hmv)
  replace IB:=Lib.hid (IB.out.mono hmv)
  replace IE:=Lib.hid (IE.out.mono hmv)
  replace ID:=Lib.hid (ID.out.mono hmv)
  replace GF:=Lib.hid (GF.out.below hmv)
  replace HB:=Lib.hid (keep_trans HB.out hmv)
  clear hmv
  have M2:=Lib.hid (fun W (hb:Below V9.heap.size V9 W)=>lmade_v R2 R2 a2 k2 c2 X2 er2 0 0 none 0 0 [] 3 W true m2.out (IB.out.mono hb) ⟨⟨rfl,by omega⟩,fun k hk=>absurd hk (by omega)⟩)
  obtain ⟨q0,q1,q2,ql⟩:=c3_of Q9.out
  obtain ⟨z0,z1,z2,zl⟩:=c3_of Q19.out
  go_upto_region 27 with (first|(go_at_call 24;(with_reducible refine (M2.out _ (Below.refl _ _)).mono ?_);rintro _ t5 ⟨rfl,hbt5⟩;have hkt5:Below V9.heap.size V9 t5:=hbt5)|fail)
  clear q0 q1 q2 ql z0 z1 z2 zl
  have hmv:Below V9.heap.size V9 t5:=hbt5
  replace Q0:=Lib.hid (keepq hmv Q0.out)
  replace Q1:=Lib.hid (keepq hmv Q1.out)
  replace Q7:=Lib.hid (keepq hmv Q7.out)
  replace Q9:=Lib.hid (keepq hmv Q9.out)
  replace Q11:=Lib.hid (keepq hmv Q11.out)
  replace Q12:=Lib.hid (keepq hmv Q12.out)
  replace Q19:=Lib.hid (keepq hmv Q19.out)
  replace IA:=Lib.hid (IA.out.mono hmv)
  replace IB:=Lib.hid (IB.out.mono hmv)
  replace IE:=Lib.hid (IE.out.mono hmv)
  replace ID:=Lib.hid (ID.out.mono hmv)
  replace GF:=Lib.hid (GF.out.below hmv)
  replace HB:=Lib.hid (keep_trans HB.out hmv)
  clear hmv hbt5 hkt5 M2
  go_upto_region 29 with (first|(go_at_call 63;(with_reducible refine (HF.out _ HB.out).mono ?_);rintro _ t6 ⟨rfl,hbt6⟩)|fail)
  have hmv:Below t5.heap.size t5 t6:=hbt6
  replace Q0:=Lib.hid (keepq hmv Q0.out)
  replace Q1:=Lib.hid (keepq hmv Q1.out)
  replace Q7:=Lib.hid (keepq hmv Q7.out)
  replace Q9:=Lib.hid (keepq hmv Q9.out)
  replace Q11:=Lib.hid (keepq hmv Q11.out)
  replace Q12:=Lib.hid (keepq hmv Q12.out)
  replace Q19:=Lib.hid (keepq hmv Q19.out)
  replace IA:=Lib.hid (IA.out.mono hmv)
  replace IB:=Lib.hid (IB.out.mono hmv)
  replace IE:=Lib.hid (IE.out.mono hmv)
  replace ID:=Lib.hid (ID.out.mono hmv)
  replace GF:=Lib.hid (GF.out.below hmv)
  replace HB:=Lib.hid (keep_trans HB.out hmv)
  clear hmv hbt6
  go_upto_region 30 with (first|(go_at_call 64;(with_reducible refine (HG.out _ HB.out).mono ?_);rintro _ u8 ⟨a8,c8,a9,c9,rfl,ig8,ig9,hbu8⟩)|fail)
  have gsz:((u8.alloc (.cells #[.int .i64 R3,.int .i64 R3,.slice a8 k3 c8] 24)).alloc (.cells #[.int .i64 R3,.int .i64 R3,.slice a9 k4 c9] 24)).heap.size=u8.heap.size+2:=by simp only[World.size_alloc] <;> omega
  have gB:Below u8.heap.size u8 ((u8.alloc (.cells #[.int .i64 R3,.int .i64 R3,.slice a8 k3 c8] 24)).alloc (.cells #[.int .i64 R3,.int .i64 R3,.slice a9 k4 c9] 24)):=((Below.refl _ _).alloc (Nat.le_refl _) _).alloc (by simp only[World.size_alloc];omega) _
  have gq0:((u8.alloc (.cells #[.int .i64 R3,.int .i64 R3,.slice a8 k3 c8] 24)).alloc (.cells #[.int .i64 R3,.int .i64 R3,.slice a9 k4 c9] 24)).heap[u8.heap.size]?=some (.cells #[.int .i64 R3,.int .i64 R3,.slice a8 k3 c8] 24 (0,0)):=by have h:=World.alloc_heap_new u8 (.cells #[.int .i64 R3,.int .i64 R3,.slice a8 k3 c8] 24);exact (Below.heap_alloc _ _ _ (by simp only[World.size_alloc];omega)).trans (h)
  have gq1:((u8.alloc (.cells #[.int .i64 R3,.int .i64 R3,.slice a8 k3 c8] 24)).alloc (.cells #[.int .i64 R3,.int .i64 R3,.slice a9 k4 c9] 24)).heap[u8.heap.size+1]?=some (.cells #[.int .i64 R3,.int .i64 R3,.slice a9 k4 c9] 24 (0,0)):=by have h:=World.alloc_heap_new (u8.alloc (.cells #[.int .i64 R3,.int .i64 R3,.slice a8 k3 c8] 24)) (.cells #[.int .i64 R3,.int .i64 R3,.slice a9 k4 c9] 24);simp only[World.size_alloc] at h;exact h
  generalize ((u8.alloc (.cells #[.int .i64 R3,.int .i64 R3,.slice a8 k3 c8] 24)).alloc (.cells #[.int .i64 R3,.int .i64 R3,.slice a9 k4 c9] 24))=V8 at gsz gB gq0 gq1 ⊢
  have hmv:Below t6.heap.size t6 V8:=keep_trans hbu8 gB
  replace Q0:=Lib.hid (keepq hmv Q0.out)
  replace Q1:=Lib.hid (keepq hmv Q1.out)
  replace Q7:=Lib.hid (keepq hmv Q7.out)
  replace Q9:=Lib.hid (keepq hmv Q9.out)
  replace Q11:=Lib.hid (keepq hmv Q11.out)
  replace Q12:=Lib.hid (keepq hmv Q12.out)
  replace Q19:=Lib.hid (keepq hmv Q19.out)
  replace IA:=Lib.hid (IA.out.mono hmv)
  replace IB:=Lib.hid (IB.out.mono hmv)
  replace IE:=Lib.hid (IE.out.mono hmv)
  replace ID:=Lib.hid (ID.out.mono hmv)
  replace GF:=Lib.hid (GF.out.below hmv)
  replace HB:=Lib.hid (keep_trans HB.out hmv)
  clear hmv
  have Q20:=Lib.hid gq0
  have Q21:=Lib.hid gq1
  have IG:=Lib.hid (ig8.mono gB)
  have IH:=Lib.hid (ig9.mono gB)
  clear hbu8 gsz gq0 gq1 gB ig8 ig9
  have M3:=Lib.hid (fun W (hb:Below V8.heap.size V8 W)=>lmade_v R3 R3 a3 k3 c3 X3 er3 R3 R3 a8 k3 c8 X3 0 W true m3.out (IE.out.mono hb) (IG.out.mono hb))
  have SM:=Lib.hid (fun W (hb:Below V8.heap.size V8 W)=>rsame_c R3 R3 a4 k4 c4 X4 R3 R3 a9 k4 c9 X4 W (ID.out.mono hb) (IH.out.mono hb))
  rw[m4.out] at SM
  have FM:=Lib.hid (fun W (hb:Below V8.heap.size V8 W)=>HI.out W (keep_trans HB.out hb))
  have GS:=Lib.hid (fun W (hb:Below V8.heap.size V8 W) a6 c6 (h6:GL W a6 k5 NN css)=>lgrids_t a5 k5 c5 NN css a6 c6 W (GF.out.below hb) h6 (by have:=hk5.out;omega))
  obtain ⟨s0,s1,s2,sl⟩:=c3_of Q11.out
  obtain ⟨v0,v1,v2,vl⟩:=c3_of Q20.out
  go_wp2_with (first|(go_at_call 24;(with_reducible refine (M3.out _ (Below.refl _ _)).mono ?_);rintro _ t7 ⟨rfl,hbt7⟩;have hkt7:Below V8.heap.size V8 t7:=hbt7;obtain ⟨tt70,tt71,tt72,tt7l⟩:=c3_of (keepq hkt7 Q12.out);obtain ⟨ut70,ut71,ut72,ut7l⟩:=c3_of (keepq hkt7 Q21.out))|(go_at_call 43;(with_reducible refine (SM.out _ (hkt7)).mono ?_);rintro _ t8 ⟨rfl,hbt8⟩;have hkt8:Below V8.heap.size V8 t8:=keep_trans hkt7 hbt8)|(go_at_call 65;(with_reducible refine (FM.out _ hkt8).mono ?_);rintro _ t9 ⟨a6,c6,rfl,gl6,hbt9⟩;have hkt9:=keep_trans hkt8 hbt9)|(go_at_call 29;(with_reducible refine (GS.out _ hkt9 _ _ gl6).mono ?_);rintro _ t10 ⟨rfl,hbt10⟩)|(go_at_call 20;refine (awake4_c _).mono ?_;rintro _ wz ⟨rfl,hbz⟩)|fail)
  refine bodyPost_ret (v := .bool true) ?_ rfl ⟨rfl,keep_trans HB.out (keep_trans (keep_trans hkt9 hbt10) hbz)⟩
  simp[results,Tryz.f11,go_sem]
theorem ltab_RN (r C:Int) (a:Option Addr) (n c:Nat) (m A B:Int) (w:World) (h0:¬300<n) (ea:Int) (R1:Int) (k1:Nat) (X1:List Int) (er1:Int) (R2:Int) (k2:Nat) (X2:List Int) (er2:Int) (R3:Int) (k3 k4:Nat) (X3 X4:List Int) (er3:Int) (k5 NN:Nat) (css:List (List Int)) (hk5:k5≤1000) (er5:Int) (z1:Nat) (Y1:List Int) (m1:madeB R1 R1 X1 er1 m m Y1 0=true) (hbt:btF A B 2=3) (m2:madeB R2 R2 X2 er2 0 0 [] 3=true) (he5:er5=15) (hk0:k5=0) (m3:madeB R3 R3 X3 er3 0 0 [] 15=true) (m4:sameG R3 R3 X4 0 0 []=true)
  (H1:tG w 54 #[.int .i64 m] R1 k1 X1 er1) (H2:tG w 55 #[.int .i64 m,.int .i64 A,.int .i64 B] R2 k2 X2 er2) (H3:tF w m R3 k3 k4 X3 X4 er3) (H4:tL w m k5 NN css er5) (H5:tH w 58 #[.agg #[.int .i64 r,.int .i64 C,.slice a n c]] (.int .i64 ea)) (H6:tH w 22 #[.agg #[.int .i64 r,.int .i64 C,.slice a n c]] (.int .i64 ea)) (H7:∀W,Calls Tryz.prog 59 #[.int .i64 m] W fun e w'=>e = .returned (.int .i64 0)∧Below W.heap.size W w') (H8:tR w #[.int .i64 m,.int .i64 1,.int .i64 1] m z1 Y1) (HF:tH w 63 #[.int .i64 m] (.bool false)):Calls Tryz.prog 11 #[.agg #[.int .i64 r,.int .i64 C,.slice a n c],.int .i64 m,.agg #[.int .i64 A,.int .i64 B]] w fun e w'=>e = .returned (.bool true)∧Below w.heap.size w w':=by
 subst hk0
 subst he5
 have hg0:decide ((300:Int)<(n:Int))=false:=decide_eq_false (by omega)
 have e1:(ea != ea)=false:=by simp
 have H1:=Lib.hid H1
 have H2:=Lib.hid H2
 have H3:=Lib.hid H3
 have H4:=Lib.hid H4
 have H5:=Lib.hid H5
 have H6:=Lib.hid H6
 have hk5:=Lib.hid hk5
 have H7:=Lib.hid H7
 have m1:=Lib.hid m1
 have H8:=Lib.hid H8
 have m2:=Lib.hid m2
 have hbt:=Lib.hid hbt
 have HF:=Lib.hid HF
 have m3:=Lib.hid m3
 have m4:=Lib.hid m4
 clear h0
 go_enter Tryz.func11,Tryz.ntmps11
 go_upto_region 1 with fail
 have fsz:((w.alloc (.cells #[.int .i64 r,.int .i64 C,.slice a n c] 24)).alloc (.cells #[.int .i64 A,.int .i64 B] 62)).heap.size=w.heap.size+2:=by simp only[World.size_alloc] <;> omega
 have fB:Below w.heap.size w ((w.alloc (.cells #[.int .i64 r,.int .i64 C,.slice a n c] 24)).alloc (.cells #[.int .i64 A,.int .i64 B] 62)):=((Below.refl _ _).alloc (Nat.le_refl _) _).alloc (by simp only[World.size_alloc];omega) _
 have fq0:((w.alloc (.cells #[.int .i64 r,.int .i64 C,.slice a n c] 24)).alloc (.cells #[.int .i64 A,.int .i64 B] 62)).heap[w.heap.size]?=some (.cells #[.int .i64 r,.int .i64 C,.slice a n c] 24 (0,0)):=by have h:=World.alloc_heap_new w (.cells #[.int .i64 r,.int .i64 C,.slice a n c] 24);exact (Below.heap_alloc _ _ _ (by simp only[World.size_alloc];omega)).trans (h)
 have fq1:((w.alloc (.cells #[.int .i64 r,.int .i64 C,.slice a n c] 24)).alloc (.cells #[.int .i64 A,.int .i64 B] 62)).heap[w.heap.size+1]?=some (.cells #[.int .i64 A,.int .i64 B] 62 (0,0)):=by have h:=World.alloc_heap_new (w.alloc (.cells #[.int .i64 r,.int .i64 C,.slice a n c] 24)) (.cells #[.int .i64 A,.int .i64 B] 62);simp only[World.size_alloc] at h;exact h
 generalize ((w.alloc (.cells #[.int .i64 r,.int .i64 C,.slice a n c] 24)).alloc (.cells #[.int .i64 A,.int .i64 B] 62))=W0 at fsz fB fq0 fq1 ⊢
 have Q0:=Lib.hid fq0
 have Q1:=Lib.hid fq1
 have HB:=Lib.hid fB
 clear fq0 fq1 fsz fB
 obtain ⟨x0,x1,x2,xl⟩:=c3_of Q0.out
 go_upto_region 3 with (first|(go_at_call 19;(with_reducible refine (lgreat_c r C a n c 300 _).mono ?_);rintro _ g1 ⟨rfl,hbg1⟩)|fail)
 clear x0 x1 x2 xl
 have hmv:Below W0.heap.size W0 g1:=hbg1
 replace Q0:=Lib.hid (keepq hmv Q0.out)
 replace Q1:=Lib.hid (keepq hmv Q1.out)
 replace HB:=Lib.hid (keep_trans HB.out hmv)
 clear hmv hbg1
 go_upto_region 4 with (first|(go_at_call 54;(with_reducible refine (H1.out _ HB.out).mono ?_);rintro _ u1 ⟨a1,c1,rfl,ia,hbu1⟩)|fail)
 have gsz:(u1.alloc (.cells #[.int .i64 R1,.int .i64 R1,.slice a1 k1 c1] 24)).heap.size=u1.heap.size+1:=by simp only[World.size_alloc]
 have gB:Below u1.heap.size u1 (u1.alloc (.cells #[.int .i64 R1,.int .i64 R1,.slice a1 k1 c1] 24)):=(Below.refl _ _).alloc (Nat.le_refl _) _
 have gq0:(u1.alloc (.cells #[.int .i64 R1,.int .i64 R1,.slice a1 k1 c1] 24)).heap[u1.heap.size]?=some (.cells #[.int .i64 R1,.int .i64 R1,.slice a1 k1 c1] 24 (0,0)):=by have h:=World.alloc_heap_new u1 (.cells #[.int .i64 R1,.int .i64 R1,.slice a1 k1 c1] 24);exact h
 generalize (u1.alloc (.cells #[.int .i64 R1,.int .i64 R1,.slice a1 k1 c1] 24))=V1 at gsz gB gq0 ⊢
 have hmv:Below g1.heap.size g1 V1:=keep_trans hbu1 gB
 replace Q0:=Lib.hid (keepq hmv Q0.out)
 replace Q1:=Lib.hid (keepq hmv Q1.out)
 replace HB:=Lib.hid (keep_trans HB.out hmv)
 clear hmv
 have Q7:=Lib.hid gq0
 have IA:=Lib.hid (ia.mono gB)
 clear hbu1 gsz gq0 gB ia
 obtain ⟨y0,y1,yl⟩:=c2_of Q1.out
 go_upto_region 5 with (first|(go_at_call 55;(with_reducible refine (H2.out _ HB.out).mono ?_);rintro _ u2 ⟨a2,c2,rfl,ib,hbu2⟩)|fail)
 have hsz:(u2.alloc (.cells #[.int .i64 R2,.int .i64 R2,.slice a2 k2 c2] 24)).heap.size=u2.heap.size+1:=by simp only[World.size_alloc]
 have hB:Below u2.heap.size u2 (u2.alloc (.cells #[.int .i64 R2,.int .i64 R2,.slice a2 k2 c2] 24)):=(Below.refl _ _).alloc (Nat.le_refl _) _
 have hq0:(u2.alloc (.cells #[.int .i64 R2,.int .i64 R2,.slice a2 k2 c2] 24)).heap[u2.heap.size]?=some (.cells #[.int .i64 R2,.int .i64 R2,.slice a2 k2 c2] 24 (0,0)):=by have h:=World.alloc_heap_new u2 (.cells #[.int .i64 R2,.int .i64 R2,.slice a2 k2 c2] 24);exact h
 generalize (u2.alloc (.cells #[.int .i64 R2,.int .i64 R2,.slice a2 k2 c2] 24))=V2 at hsz hB hq0 ⊢
 clear y0 y1 yl
 have hmv:Below V1.heap.size V1 V2:=keep_trans hbu2 hB
 replace Q0:=Lib.hid (keepq hmv Q0.out)
 replace Q1:=Lib.hid (keepq hmv Q1.out)
 replace Q7:=Lib.hid (keepq hmv Q7.out)
 replace IA:=Lib.hid (IA.out.mono hmv)
 replace HB:=Lib.hid (keep_trans HB.out hmv)
 clear hmv
 have Q9:=Lib.hid hq0
 have IB:=Lib.hid (ib.mono hB)
 clear hbu2 hsz hq0 hB ib
 go_upto_region 6 with (first|(go_at_call 56;(with_reducible refine (H3.out _ HB.out).mono ?_);rintro _ u3 ⟨a3,c3,a4,c4,rfl,ic3,id4,hbu3⟩)|fail)
 have gsz:((u3.alloc (.cells #[.int .i64 R3,.int .i64 R3,.slice a3 k3 c3] 24)).alloc (.cells #[.int .i64 R3,.int .i64 R3,.slice a4 k4 c4] 24)).heap.size=u3.heap.size+2:=by simp only[World.size_alloc] <;> omega
 have gB:Below u3.heap.size u3 ((u3.alloc (.cells #[.int .i64 R3,.int .i64 R3,.slice a3 k3 c3] 24)).alloc (.cells #[.int .i64 R3,.int .i64 R3,.slice a4 k4 c4] 24)):=((Below.refl _ _).alloc (Nat.le_refl _) _).alloc (by simp only[World.size_alloc];omega) _
 have gq0:((u3.alloc (.cells #[.int .i64 R3,.int .i64 R3,.slice a3 k3 c3] 24)).alloc (.cells #[.int .i64 R3,.int .i64 R3,.slice a4 k4 c4] 24)).heap[u3.heap.size]?=some (.cells #[.int .i64 R3,.int .i64 R3,.slice a3 k3 c3] 24 (0,0)):=by have h:=World.alloc_heap_new u3 (.cells #[.int .i64 R3,.int .i64 R3,.slice a3 k3 c3] 24);exact (Below.heap_alloc _ _ _ (by simp only[World.size_alloc];omega)).trans (h)
 have gq1:((u3.alloc (.cells #[.int .i64 R3,.int .i64 R3,.slice a3 k3 c3] 24)).alloc (.cells #[.int .i64 R3,.int .i64 R3,.slice a4 k4 c4] 24)).heap[u3.heap.size+1]?=some (.cells #[.int .i64 R3,.int .i64 R3,.slice a4 k4 c4] 24 (0,0)):=by have h:=World.alloc_heap_new (u3.alloc (.cells #[.int .i64 R3,.int .i64 R3,.slice a3 k3 c3] 24)) (.cells #[.int .i64 R3,.int .i64 R3,.slice a4 k4 c4] 24);simp only[World.size_alloc] at h;exact h
 generalize ((u3.alloc (.cells #[.int .i64 R3,.int .i64 R3,.slice a3 k3 c3] 24)).alloc (.cells #[.int .i64 R3,.int .i64 R3,.slice a4 k4 c4] 24))=V3 at gsz gB gq0 gq1 ⊢
 have hmv:Below V2.heap.size V2 V3:=keep_trans hbu3 gB
 replace Q0:=Lib.hid (keepq hmv Q0.out)
 replace Q1:=Lib.hid (keepq hmv Q1.out)
 replace Q7:=Lib.hid (keepq hmv Q7.out)
 replace Q9:=Lib.hid (keepq hmv Q9.out)
 replace IA:=Lib.hid (IA.out.mono hmv)
 replace IB:=Lib.hid (IB.out.mono hmv)
 replace HB:=Lib.hid (keep_trans HB.out hmv)
 clear hmv
 have Q11:=Lib.hid gq0
 have Q12:=Lib.hid gq1
 have IE:=Lib.hid (ic3.mono gB)
 have ID:=Lib.hid (id4.mono gB)
 clear hbu3 gsz gq0 gq1 gB ic3 id4
 go_upto_region 7 with (first|(go_at_call 57;(with_reducible refine (H4.out _ HB.out).mono ?_);rintro _ u4 ⟨a5,c5,rfl,gl5,hbu4⟩)|fail)
 have hmv:Below V3.heap.size V3 u4:=hbu4
 replace Q0:=Lib.hid (keepq hmv Q0.out)
 replace Q1:=Lib.hid (keepq hmv Q1.out)
 replace Q7:=Lib.hid (keepq hmv Q7.out)
 replace Q9:=Lib.hid (keepq hmv Q9.out)
 replace Q11:=Lib.hid (keepq hmv Q11.out)
 replace Q12:=Lib.hid (keepq hmv Q12.out)
 replace IA:=Lib.hid (IA.out.mono hmv)
 replace IB:=Lib.hid (IB.out.mono hmv)
 replace IE:=Lib.hid (IE.out.mono hmv)
 replace ID:=Lib.hid (ID.out.mono hmv)
 replace HB:=Lib.hid (keep_trans HB.out hmv)
 clear hmv
 have GF:=Lib.hid gl5
 clear hbu4 gl5
 obtain ⟨x0,x1,x2,xl⟩:=c3_of Q0.out
 refine wp_region_S (fun w'=>∃u,w'=over (u4) u) [] [(0,0),(0,2),(1,1),(1,3),(0,4)] (by kernel_rfl) (by kernel_rfl) (by exact ⟨_,below_over (by repeat (first|assumption|exact Below.refl _ _|refine keep_drew ?_|refine keep_alloc ?_ _|refine keep_trans ?_ (by assumption)))⟩) ?_
 dsimp only[pickOps,nthOp]
 repeat (first|(refine wpS_skip rfl (fun K hK=>?_);go_big_quiet_op;refine hK _ ?_;clear hK K)|(refine wpS_quiet rfl rfl (fun K hK=>?_);go_big_quiet_op;refine hK _ ?_;clear hK K)|(refine wpS_loud ?_;go_wp2_with (first|(go_at_call 58;(with_reducible refine (H5.out _ (keep_trans HB.out (by (repeat (first|assumption|exact Below.refl _ _|refine keep_drew ?_|refine keep_alloc ?_ _|refine keep_trans ?_ (by assumption)))))).mono ?_);rintro _ u5 ⟨rfl,hbu5⟩)|(go_at_call 22;(with_reducible refine (H6.out _ (keep_trans HB.out (by (repeat (first|assumption|exact Below.refl _ _|refine keep_drew ?_|refine keep_alloc ?_ _|refine keep_trans ?_ (by assumption)))))).mono ?_);rintro _ u6 ⟨rfl,hbu6⟩)|fail);refine ⟨?_,?_⟩;focus (exact ⟨_,below_over (by repeat (first|assumption|exact Below.refl _ _|refine keep_drew ?_|refine keep_alloc ?_ _|refine keep_trans ?_ (by assumption)))⟩)))
 refine wpS_end ?_
 clear x0 x1 x2 xl
 have hmv:Below u4.heap.size u4 u6:=(by (repeat (first|assumption|exact Below.refl _ _|refine keep_drew ?_|refine keep_alloc ?_ _|refine keep_trans ?_ (by assumption))))
 replace Q0:=Lib.hid (keepq hmv Q0.out)
 replace Q1:=Lib.hid (keepq hmv Q1.out)
 replace Q7:=Lib.hid (keepq hmv Q7.out)
 replace Q9:=Lib.hid (keepq hmv Q9.out)
 replace Q11:=Lib.hid (keepq hmv Q11.out)
 replace Q12:=Lib.hid (keepq hmv Q12.out)
 replace IA:=Lib.hid (IA.out.mono hmv)
 replace IB:=Lib.hid (IB.out.mono hmv)
 replace IE:=Lib.hid (IE.out.mono hmv)
 replace ID:=Lib.hid (ID.out.mono hmv)
 replace GF:=Lib.hid (GF.out.below hmv)
 replace HB:=Lib.hid (keep_trans HB.out hmv)
 clear hmv hbu5 hbu6
 go_upto_region 10 with (first|(go_at_call 59;(with_reducible refine (H7.out _).mono ?_);rintro _ u7 ⟨rfl,hbu7⟩)|fail)
 have hmv:Below u6.heap.size u6 u7:=hbu7
 replace Q0:=Lib.hid (keepq hmv Q0.out)
 replace Q1:=Lib.hid (keepq hmv Q1.out)
 replace Q7:=Lib.hid (keepq hmv Q7.out)
 replace Q9:=Lib.hid (keepq hmv Q9.out)
 replace Q11:=Lib.hid (keepq hmv Q11.out)
 replace Q12:=Lib.hid (keepq hmv Q12.out)
 replace IA:=Lib.hid (IA.out.mono hmv)
 replace IB:=Lib.hid (IB.out.mono hmv)
 replace IE:=Lib.hid (IE.out.mono hmv)
 replace ID:=Lib.hid (ID.out.mono hmv)
 replace GF:=Lib.hid (GF.out.below hmv)
 replace HB:=Lib.hid (keep_trans HB.out hmv)
 clear hmv hbu7
 obtain ⟨p0,p1,p2,pl⟩:=c3_of Q7.out
 go_upto_region 12 with fail
 have RL:=Lib.hid (fun W (hb:Below u7.heap.size u7 W)=>H8.out W (keep_trans HB.out hb))
 have MA:=Lib.hid (fun W (hb:Below u7.heap.size u7 W) a7 c7 (i7:IC W a7 z1 Y1)=>lmade_v R1 R1 a1 k1 c1 X1 er1 m m a7 z1 c7 Y1 0 W true m1.out (IA.out.mono hb) i7)
 refine wp_region_S (fun w'=>∃u,w'=over (u7) u) [] [(0,0),(0,1),(0,2),(1,3),(1,4),(0,5)] (by kernel_rfl) (by kernel_rfl) (by exact ⟨_,below_over (by repeat (first|assumption|exact Below.refl _ _|refine keep_drew ?_|refine keep_alloc ?_ _|refine keep_trans ?_ (by assumption)))⟩) ?_
 dsimp only[pickOps,nthOp]
 repeat (first|(refine wpS_skip rfl (fun K hK=>?_);go_big_quiet_op;refine hK _ ?_;clear hK K)|(refine wpS_quiet rfl rfl (fun K hK=>?_);go_big_quiet_op;refine hK _ ?_;clear hK K)|(refine wpS_loud ?_;go_wp2_with (first|(go_at_call 60;(with_reducible refine (RL.out _ (by (repeat (first|assumption|exact Below.refl _ _|refine keep_drew ?_|refine keep_alloc ?_ _|refine keep_trans ?_ (by assumption))))).mono ?_);rintro _ t1 ⟨a7,c7,rfl,hf7,i7,hbt1⟩)|(go_at_call 24;(with_reducible refine (MA.out _ (by (repeat (first|assumption|exact Below.refl _ _|refine keep_drew ?_|refine keep_alloc ?_ _|refine keep_trans ?_ (by assumption)))) _ _ i7).mono ?_);rintro _ t2 ⟨rfl,hbt2⟩)|fail);refine ⟨?_,?_⟩;focus (exact ⟨_,below_over (by repeat (first|assumption|exact Below.refl _ _|refine keep_drew ?_|refine keep_alloc ?_ _|refine keep_trans ?_ (by assumption)))⟩)))
 refine wpS_end ?_
 clear p0 p1 p2 pl
 have hmv:Below u7.heap.size u7 t2:=(by (repeat (first|assumption|exact Below.refl _ _|refine keep_drew ?_|refine keep_alloc ?_ _|refine keep_trans ?_ (by assumption))))
 replace Q0:=Lib.hid (keepq hmv Q0.out)
 replace Q1:=Lib.hid (keepq hmv Q1.out)
 replace Q7:=Lib.hid (keepq hmv Q7.out)
 replace Q9:=Lib.hid (keepq hmv Q9.out)
 replace Q11:=Lib.hid (keepq hmv Q11.out)
 replace Q12:=Lib.hid (keepq hmv Q12.out)
 replace IA:=Lib.hid (IA.out.mono hmv)
 replace IB:=Lib.hid (IB.out.mono hmv)
 replace IE:=Lib.hid (IE.out.mono hmv)
 replace ID:=Lib.hid (ID.out.mono hmv)
 replace GF:=Lib.hid (GF.out.below hmv)
 replace HB:=Lib.hid (keep_trans HB.out hmv)
 clear hmv hbt1 hbt2 i7 hf7 RL MA
 obtain ⟨y0,y1,yl⟩:=c2_of Q1.out
 go_upto_region 15 with fail
 go_loopw [16,18,103] (fun s16 _ s103 wr=>∃k:Nat,k≤2∧s103 = .int .i64 (k:Int)∧s16 = .int .i64 (btF A B k)∧wr=t2) (fun _ _ s103 _=>2 - (intOf s103).toNat)
 case atStart=>exact ⟨0,by omega,rfl,rfl,rfl⟩
 case round =>
  obtain ⟨k,hk,rfl,rfl,hwr⟩:=hrel
  replace hwr:=hwr.symm
  subst hwr
  by_cases hk0:k=0
  ·subst hk0
   have b0:Hid (btF A B 1=if farB A=true then 3 else btF A B 0):=rfl
   generalize btF A B 0=bv at b0 ⊢
   by_cases f1:A < -999999999
   ·have d1:decide (A < -999999999)=true:=decide_eq_true f1
    have b1:Hid (btF A B 1=3):=by unfold Hid;rw[b0.out,if_pos (by unfold farB;rw[d1];rfl)]
    clear b0
    go_wp2_with (first|(rw[ix2a])|fail)
    go_roundw
    case rel=>exact ⟨1,by omega,by go_num,by rw[b1.out],trivial⟩
    case measure=>simp[intOf]
   ·have d1:decide (A < -999999999)=false:=decide_eq_false f1
    by_cases f2:999999999<A
    ·have d2:decide (999999999<A)=true:=decide_eq_true f2
     have b1:Hid (btF A B 1=3):=by unfold Hid;rw[b0.out,if_pos (by unfold farB;rw[d1,d2];rfl)]
     clear b0
     go_wp2_with (first|(rw[ix2a])|fail)
     go_roundw
     case rel=>exact ⟨1,by omega,by go_num,by rw[b1.out],trivial⟩
     case measure=>simp[intOf]
    ·have d2:decide (999999999<A)=false:=decide_eq_false f2
     have b1:Hid (btF A B 1=bv):=by unfold Hid;rw[b0.out,if_neg (by unfold farB;rw[d1,d2];decide)]
     clear b0
     go_wp2_with (first|(rw[ix2a])|fail)
     go_roundw
     case rel=>exact ⟨1,by omega,by go_num,by rw[b1.out],trivial⟩
     case measure=>simp[intOf]
  by_cases hk1:k=1
  ·subst hk1
   have b0:Hid (btF A B 2=if farB B=true then 3 else btF A B 1):=rfl
   generalize btF A B 1=bv at b0 ⊢
   by_cases f1:B < -999999999
   ·have d1:decide (B < -999999999)=true:=decide_eq_true f1
    have b1:Hid (btF A B 2=3):=by unfold Hid;rw[b0.out,if_pos (by unfold farB;rw[d1];rfl)]
    clear b0
    go_wp2_with (first|(rw[ix2b])|fail)
    go_roundw
    case rel=>exact ⟨2,by omega,by go_num,by rw[b1.out],trivial⟩
    case measure=>simp[intOf]
   ·have d1:decide (B < -999999999)=false:=decide_eq_false f1
    by_cases f2:999999999<B
    ·have d2:decide (999999999<B)=true:=decide_eq_true f2
     have b1:Hid (btF A B 2=3):=by unfold Hid;rw[b0.out,if_pos (by unfold farB;rw[d1,d2];rfl)]
     clear b0
     go_wp2_with (first|(rw[ix2b])|fail)
     go_roundw
     case rel=>exact ⟨2,by omega,by go_num,by rw[b1.out],trivial⟩
     case measure=>simp[intOf]
    ·have d2:decide (999999999<B)=false:=decide_eq_false f2
     have b1:Hid (btF A B 2=bv):=by unfold Hid;rw[b0.out,if_neg (by unfold farB;rw[d1,d2];decide)]
     clear b0
     go_wp2_with (first|(rw[ix2b])|fail)
     go_roundw
     case rel=>exact ⟨2,by omega,by go_num,by rw[b1.out],trivial⟩
     case measure=>simp[intOf]
  have hk2:k=2:=by omega
  subst hk2
  rw[hbt.out]
  go_upto_region 23 with fail
  have gsz:(t2.alloc (.cells #[.int .i64 0,.int .i64 0,.slice none 0 0] 24)).heap.size=t2.heap.size+1:=by simp only[World.size_alloc]
  have gB:Below t2.heap.size t2 (t2.alloc (.cells #[.int .i64 0,.int .i64 0,.slice none 0 0] 24)):=(Below.refl _ _).alloc (Nat.le_refl _) _
  have gq0:(t2.alloc (.cells #[.int .i64 0,.int .i64 0,.slice none 0 0] 24)).heap[t2.heap.size]?=some (.cells #[.int .i64 0,.int .i64 0,.slice none 0 0] 24 (0,0)):=by have h:=World.alloc_heap_new t2 (.cells #[.int .i64 0,.int .i64 0,.slice none 0 0] 24);exact h
  generalize (t2.alloc (.cells #[.int .i64 0,.int .i64 0,.slice none 0 0] 24))=V9 at gsz gB gq0 ⊢
  have Q19:=Lib.hid gq0
  have GB:=Lib.hid gB
  clear gsz gq0 gB
  clear y0 y1 yl
  have hmv:Below t2.heap.size t2 V9:=GB.out
  replace Q0:=Lib.hid (keepq hmv Q0.out)
  replace Q1:=Lib.hid (keepq hmv Q1.out)
  replace Q7:=Lib.hid (keepq hmv Q7.out)
  replace Q9:=Lib.hid (keepq hmv Q9.out)
  replace Q11:=Lib.hid (keepq hmv Q11.out)
  replace Q12:=Lib.hid (keepq hmv Q12.out)
  replace IA:=Lib.hid (IA.out.mono hmv)
  replace IB:=Lib.hid (IB.out.mono hmv)
  replace IE:=Lib.hid (IE.out.mono hmv)
  replace ID:=Lib.hid (ID.out.mono hmv)
  replace GF:=Lib.hid (GF.out.below hmv)
  replace HB:=Lib.hid (keep_trans HB.out hmv)
  clear hmv
  have M2:=Lib.hid (fun W (hb:Below V9.heap.size V9 W)=>lmade_v R2 R2 a2 k2 c2 X2 er2 0 0 none 0 0 [] 3 W true m2.out (IB.out.mono hb) ⟨⟨rfl,by omega⟩,fun k hk=>absurd hk (by omega)⟩)
  obtain ⟨q0,q1,q2,ql⟩:=c3_of Q9.out
  obtain ⟨z0,z1,z2,zl⟩:=c3_of Q19.out
  go_upto_region 27 with (first|(go_at_call 24;(with_reducible refine (M2.out _ (Below.refl _ _)).mono ?_);rintro _ t5 ⟨rfl,hbt5⟩;have hkt5:Below V9.heap.size V9 t5:=hbt5)|fail)
  clear q0 q1 q2 ql z0 z1 z2 zl
  have hmv:Below V9.heap.size V9 t5:=hbt5
  replace Q0:=Lib.hid (keepq hmv Q0.out)
  replace Q1:=Lib.hid (keepq hmv Q1.out)
  replace Q7:=Lib.hid (keepq hmv Q7.out)
  replace Q9:=Lib.hid (keepq hmv Q9.out)
  replace Q11:=Lib.hid (keepq hmv Q11.out)
  replace Q12:=Lib.hid (keepq hmv Q12.out)
  replace Q19:=Lib.hid (keepq hmv Q19.out)
  replace IA:=Lib.hid (IA.out.mono hmv)
  replace IB:=Lib.hid (IB.out.mono hmv)
  replace IE:=Lib.hid (IE.out.mono hmv)
  replace ID:=Lib.hid (ID.out.mono hmv)
  replace GF:=Lib.hid (GF.out.below hmv)
  replace HB:=Lib.hid (keep_trans HB.out hmv)
  clear hmv hbt5 hkt5 M2
  go_upto_region 28 with (first|(go_at_call 63;(with_reducible refine (HF.out _ HB.out).mono ?_);rintro _ t6 ⟨rfl,hbt6⟩)|fail)
  have hmv:Below t5.heap.size t5 t6:=hbt6
  replace Q0:=Lib.hid (keepq hmv Q0.out)
  replace Q1:=Lib.hid (keepq hmv Q1.out)
  replace Q7:=Lib.hid (keepq hmv Q7.out)
  replace Q9:=Lib.hid (keepq hmv Q9.out)
  replace Q11:=Lib.hid (keepq hmv Q11.out)
  replace Q12:=Lib.hid (keepq hmv Q12.out)
  replace Q19:=Lib.hid (keepq hmv Q19.out)
  replace IA:=Lib.hid (IA.out.mono hmv)
  replace IB:=Lib.hid (IB.out.mono hmv)
  replace IE:=Lib.hid (IE.out.mono hmv)
  replace ID:=Lib.hid (ID.out.mono hmv)
  replace GF:=Lib.hid (GF.out.below hmv)
  replace HB:=Lib.hid (keep_trans HB.out hmv)
  clear hmv hbt6
  have M3:=Lib.hid (fun W (hb:Below t6.heap.size t6 W)=>lmade_v R3 R3 a3 k3 c3 X3 er3 0 0 none 0 0 [] 15 W true m3.out (IE.out.mono hb) ⟨⟨rfl,by omega⟩,fun k hk=>absurd hk (by omega)⟩)
  have SM:=Lib.hid (fun W (hb:Below t6.heap.size t6 W)=>rsame_c R3 R3 a4 k4 c4 X4 0 0 none 0 0 [] W (ID.out.mono hb) ⟨⟨rfl,by omega⟩,fun k hk=>absurd hk (by omega)⟩)
  rw[m4.out] at SM
  obtain ⟨s0,s1,s2,sl⟩:=c3_of Q11.out
  go_wp2_with (first|(go_at_call 24;(with_reducible refine (M3.out _ (Below.refl _ _)).mono ?_);rintro _ t7 ⟨rfl,hbt7⟩;have hkt7:Below t6.heap.size t6 t7:=hbt7;obtain ⟨tt70,tt71,tt72,tt7l⟩:=c3_of (keepq hkt7 Q12.out))|(go_at_call 43;(with_reducible refine (SM.out _ (hkt7)).mono ?_);rintro _ t8 ⟨rfl,hbt8⟩;have hkt8:Below t6.heap.size t6 t8:=keep_trans hkt7 hbt8)|(go_at_call 20;refine (awake4_c _).mono ?_;rintro _ wz ⟨rfl,hbz⟩)|fail)
  refine bodyPost_ret (v := .bool true) ?_ rfl ⟨rfl,keep_trans HB.out (keep_trans hkt8 hbz)⟩
  simp[results,Tryz.f11,go_sem]
theorem ltab_SF (r C:Int) (a:Option Addr) (n c:Nat) (m A B:Int) (w:World) (h0:¬300<n) (ea:Int) (R1:Int) (k1:Nat) (X1:List Int) (er1:Int) (R2:Int) (k2:Nat) (X2:List Int) (er2:Int) (R3:Int) (k3 k4:Nat) (X3 X4:List Int) (er3:Int) (k5 NN:Nat) (css:List (List Int)) (hk5:k5≤1000) (er5:Int) (z1:Nat) (Y1:List Int) (m1:madeB R1 R1 X1 er1 m m Y1 0=true) (hbt:btF A B 2=0) (pA pB:Int) (gA gB:Int) (hsing:gA≠1∨gB≠1) (m2:madeB R2 R2 X2 er2 0 0 [] 18=true) (he5:er5=0) (m3:madeB R3 R3 X3 er3 R3 R3 X3 0=true) (m4:sameG R3 R3 X4 R3 R3 X4=true)
  (H1:tG w 54 #[.int .i64 m] R1 k1 X1 er1) (H2:tG w 55 #[.int .i64 m,.int .i64 A,.int .i64 B] R2 k2 X2 er2) (H3:tF w m R3 k3 k4 X3 X4 er3) (H4:tL w m k5 NN css er5) (H5:tH w 58 #[.agg #[.int .i64 r,.int .i64 C,.slice a n c]] (.int .i64 ea)) (H6:tH w 22 #[.agg #[.int .i64 r,.int .i64 C,.slice a n c]] (.int .i64 ea)) (H7:∀W,Calls Tryz.prog 59 #[.int .i64 m] W fun e w'=>e = .returned (.int .i64 0)∧Below W.heap.size W w') (H8:tR w #[.int .i64 m,.int .i64 1,.int .i64 1] m z1 Y1) (H9:∀W,Calls Tryz.prog 62 #[.int .i64 A,.int .i64 m] W fun e w'=>e = .returned (.int .i64 pA)∧W=w') (HA:∀W,Calls Tryz.prog 62 #[.int .i64 B,.int .i64 m] W fun e w'=>e = .returned (.int .i64 pB)∧W=w') (HC:tH w 61 #[.int .i64 pA,.int .i64 m] (.int .i64 gA)) (HD:tH w 61 #[.int .i64 pB,.int .i64 m] (.int .i64 gB)) (HF:tH w 63 #[.int .i64 m] (.bool true)) (HG:tS w m R3 k3 k4 X3 X4) (HI:tM w m k5 NN css):Calls Tryz.prog 11 #[.agg #[.int .i64 r,.int .i64 C,.slice a n c],.int .i64 m,.agg #[.int .i64 A,.int .i64 B]] w fun e w'=>e = .returned (.bool true)∧Below w.heap.size w w':=by
 subst he5
 have hg0:decide ((300:Int)<(n:Int))=false:=decide_eq_false (by omega)
 have e1:(ea != ea)=false:=by simp
 have H1:=Lib.hid H1
 have H2:=Lib.hid H2
 have H3:=Lib.hid H3
 have H4:=Lib.hid H4
 have H5:=Lib.hid H5
 have H6:=Lib.hid H6
 have hk5:=Lib.hid hk5
 have H7:=Lib.hid H7
 have m1:=Lib.hid m1
 have H8:=Lib.hid H8
 have m2:=Lib.hid m2
 have hbt:=Lib.hid hbt
 have H9:=Lib.hid H9
 have HA:=Lib.hid HA
 have HC:=Lib.hid HC
 have HD:=Lib.hid HD
 have HF:=Lib.hid HF
 have HG:=Lib.hid HG
 have HI:=Lib.hid HI
 have m3:=Lib.hid m3
 have m4:=Lib.hid m4
 have hsing:=Lib.hid hsing
 go_enter Tryz.func11,Tryz.ntmps11
 go_upto_region 1 with fail
 have fsz:((w.alloc (.cells #[.int .i64 r,.int .i64 C,.slice a n c] 24)).alloc (.cells #[.int .i64 A,.int .i64 B] 62)).heap.size=w.heap.size+2:=by simp only[World.size_alloc] <;> omega
 have fB:Below w.heap.size w ((w.alloc (.cells #[.int .i64 r,.int .i64 C,.slice a n c] 24)).alloc (.cells #[.int .i64 A,.int .i64 B] 62)):=((Below.refl _ _).alloc (Nat.le_refl _) _).alloc (by simp only[World.size_alloc];omega) _
 have fq0:((w.alloc (.cells #[.int .i64 r,.int .i64 C,.slice a n c] 24)).alloc (.cells #[.int .i64 A,.int .i64 B] 62)).heap[w.heap.size]?=some (.cells #[.int .i64 r,.int .i64 C,.slice a n c] 24 (0,0)):=by have h:=World.alloc_heap_new w (.cells #[.int .i64 r,.int .i64 C,.slice a n c] 24);exact (Below.heap_alloc _ _ _ (by simp only[World.size_alloc];omega)).trans (h)
 have fq1:((w.alloc (.cells #[.int .i64 r,.int .i64 C,.slice a n c] 24)).alloc (.cells #[.int .i64 A,.int .i64 B] 62)).heap[w.heap.size+1]?=some (.cells #[.int .i64 A,.int .i64 B] 62 (0,0)):=by have h:=World.alloc_heap_new (w.alloc (.cells #[.int .i64 r,.int .i64 C,.slice a n c] 24)) (.cells #[.int .i64 A,.int .i64 B] 62);simp only[World.size_alloc] at h;exact h
 generalize ((w.alloc (.cells #[.int .i64 r,.int .i64 C,.slice a n c] 24)).alloc (.cells #[.int .i64 A,.int .i64 B] 62))=W0 at fsz fB fq0 fq1 ⊢
 have Q0:=Lib.hid fq0
 have Q1:=Lib.hid fq1
 have HB:=Lib.hid fB
 clear fq0 fq1 fsz fB
 obtain ⟨x0,x1,x2,xl⟩:=c3_of Q0.out
 go_upto_region 3 with (first|(go_at_call 19;(with_reducible refine (lgreat_c r C a n c 300 _).mono ?_);rintro _ g1 ⟨rfl,hbg1⟩)|fail)
 clear x0 x1 x2 xl
 have hmv:Below W0.heap.size W0 g1:=hbg1
 replace Q0:=Lib.hid (keepq hmv Q0.out)
 replace Q1:=Lib.hid (keepq hmv Q1.out)
 replace HB:=Lib.hid (keep_trans HB.out hmv)
 clear hmv hbg1
 go_upto_region 4 with (first|(go_at_call 54;(with_reducible refine (H1.out _ HB.out).mono ?_);rintro _ u1 ⟨a1,c1,rfl,ia,hbu1⟩)|fail)
 have gsz:(u1.alloc (.cells #[.int .i64 R1,.int .i64 R1,.slice a1 k1 c1] 24)).heap.size=u1.heap.size+1:=by simp only[World.size_alloc]
 have gB:Below u1.heap.size u1 (u1.alloc (.cells #[.int .i64 R1,.int .i64 R1,.slice a1 k1 c1] 24)):=(Below.refl _ _).alloc (Nat.le_refl _) _
 have gq0:(u1.alloc (.cells #[.int .i64 R1,.int .i64 R1,.slice a1 k1 c1] 24)).heap[u1.heap.size]?=some (.cells #[.int .i64 R1,.int .i64 R1,.slice a1 k1 c1] 24 (0,0)):=by have h:=World.alloc_heap_new u1 (.cells #[.int .i64 R1,.int .i64 R1,.slice a1 k1 c1] 24);exact h
 generalize (u1.alloc (.cells #[.int .i64 R1,.int .i64 R1,.slice a1 k1 c1] 24))=V1 at gsz gB gq0 ⊢
 have hmv:Below g1.heap.size g1 V1:=keep_trans hbu1 gB
 replace Q0:=Lib.hid (keepq hmv Q0.out)
 replace Q1:=Lib.hid (keepq hmv Q1.out)
 replace HB:=Lib.hid (keep_trans HB.out hmv)
 clear hmv
 have Q7:=Lib.hid gq0
 have IA:=Lib.hid (ia.mono gB)
 clear hbu1 gsz gq0 gB ia
 obtain ⟨y0,y1,yl⟩:=c2_of Q1.out
 go_upto_region 5 with (first|(go_at_call 55;(with_reducible refine (H2.out _ HB.out).mono ?_);rintro _ u2 ⟨a2,c2,rfl,ib,hbu2⟩)|fail)
 have hsz:(u2.alloc (.cells #[.int .i64 R2,.int .i64 R2,.slice a2 k2 c2] 24)).heap.size=u2.heap.size+1:=by simp only[World.size_alloc]
 have hB:Below u2.heap.size u2 (u2.alloc (.cells #[.int .i64 R2,.int .i64 R2,.slice a2 k2 c2] 24)):=(Below.refl _ _).alloc (Nat.le_refl _) _
 have hq0:(u2.alloc (.cells #[.int .i64 R2,.int .i64 R2,.slice a2 k2 c2] 24)).heap[u2.heap.size]?=some (.cells #[.int .i64 R2,.int .i64 R2,.slice a2 k2 c2] 24 (0,0)):=by have h:=World.alloc_heap_new u2 (.cells #[.int .i64 R2,.int .i64 R2,.slice a2 k2 c2] 24);exact h
 generalize (u2.alloc (.cells #[.int .i64 R2,.int .i64 R2,.slice a2 k2 c2] 24))=V2 at hsz hB hq0 ⊢
 clear y0 y1 yl
 have hmv:Below V1.heap.size V1 V2:=keep_trans hbu2 hB
 replace Q0:=Lib.hid (keepq hmv Q0.out)
 replace Q1:=Lib.hid (keepq hmv Q1.out)
 replace Q7:=Lib.hid (keepq hmv Q7.out)
 replace IA:=Lib.hid (IA.out.mono hmv)
 replace HB:=Lib.hid (keep_trans HB.out hmv)
 clear hmv
 have Q9:=Lib.hid hq0
 have IB:=Lib.hid (ib.mono hB)
 clear hbu2 hsz hq0 hB ib
 go_upto_region 6 with (first|(go_at_call 56;(with_reducible refine (H3.out _ HB.out).mono ?_);rintro _ u3 ⟨a3,c3,a4,c4,rfl,ic3,id4,hbu3⟩)|fail)
 have gsz:((u3.alloc (.cells #[.int .i64 R3,.int .i64 R3,.slice a3 k3 c3] 24)).alloc (.cells #[.int .i64 R3,.int .i64 R3,.slice a4 k4 c4] 24)).heap.size=u3.heap.size+2:=by simp only[World.size_alloc] <;> omega
 have gB:Below u3.heap.size u3 ((u3.alloc (.cells #[.int .i64 R3,.int .i64 R3,.slice a3 k3 c3] 24)).alloc (.cells #[.int .i64 R3,.int .i64 R3,.slice a4 k4 c4] 24)):=((Below.refl _ _).alloc (Nat.le_refl _) _).alloc (by simp only[World.size_alloc];omega) _
 have gq0:((u3.alloc (.cells #[.int .i64 R3,.int .i64 R3,.slice a3 k3 c3] 24)).alloc (.cells #[.int .i64 R3,.int .i64 R3,.slice a4 k4 c4] 24)).heap[u3.heap.size]?=some (.cells #[.int .i64 R3,.int .i64 R3,.slice a3 k3 c3] 24 (0,0)):=by have h:=World.alloc_heap_new u3 (.cells #[.int .i64 R3,.int .i64 R3,.slice a3 k3 c3] 24);exact (Below.heap_alloc _ _ _ (by simp only[World.size_alloc];omega)).trans (h)
 have gq1:((u3.alloc (.cells #[.int .i64 R3,.int .i64 R3,.slice a3 k3 c3] 24)).alloc (.cells #[.int .i64 R3,.int .i64 R3,.slice a4 k4 c4] 24)).heap[u3.heap.size+1]?=some (.cells #[.int .i64 R3,.int .i64 R3,.slice a4 k4 c4] 24 (0,0)):=by have h:=World.alloc_heap_new (u3.alloc (.cells #[.int .i64 R3,.int .i64 R3,.slice a3 k3 c3] 24)) (.cells #[.int .i64 R3,.int .i64 R3,.slice a4 k4 c4] 24);simp only[World.size_alloc] at h;exact h
 generalize ((u3.alloc (.cells #[.int .i64 R3,.int .i64 R3,.slice a3 k3 c3] 24)).alloc (.cells #[.int .i64 R3,.int .i64 R3,.slice a4 k4 c4] 24))=V3 at gsz gB gq0 gq1 ⊢
 have hmv:Below V2.heap.size V2 V3:=keep_trans hbu3 gB
 replace Q0:=Lib.hid (keepq hmv Q0.out)
 replace Q1:=Lib.hid (keepq hmv Q1.out)
 replace Q7:=Lib.hid (keepq hmv Q7.out)
 replace Q9:=Lib.hid (keepq hmv Q9.out)
 replace IA:=Lib.hid (IA.out.mono hmv)
 replace IB:=Lib.hid (IB.out.mono hmv)
 replace HB:=Lib.hid (keep_trans HB.out hmv)
 clear hmv
 have Q11:=Lib.hid gq0
 have Q12:=Lib.hid gq1
 have IE:=Lib.hid (ic3.mono gB)
 have ID:=Lib.hid (id4.mono gB)
 clear hbu3 gsz gq0 gq1 gB ic3 id4
 go_upto_region 7 with (first|(go_at_call 57;(with_reducible refine (H4.out _ HB.out).mono ?_);rintro _ u4 ⟨a5,c5,rfl,gl5,hbu4⟩)|fail)
 have hmv:Below V3.heap.size V3 u4:=hbu4
 replace Q0:=Lib.hid (keepq hmv Q0.out)
 replace Q1:=Lib.hid (keepq hmv Q1.out)
 replace Q7:=Lib.hid (keepq hmv Q7.out)
 replace Q9:=Lib.hid (keepq hmv Q9.out)
 replace Q11:=Lib.hid (keepq hmv Q11.out)
 replace Q12:=Lib.hid (keepq hmv Q12.out)
 replace IA:=Lib.hid (IA.out.mono hmv)
 replace IB:=Lib.hid (IB.out.mono hmv)
 replace IE:=Lib.hid (IE.out.mono hmv)
 replace ID:=Lib.hid (ID.out.mono hmv)
 replace HB:=Lib.hid (keep_trans HB.out hmv)
 clear hmv
 have GF:=Lib.hid gl5
 clear hbu4 gl5
 obtain ⟨x0,x1,x2,xl⟩:=c3_of Q0.out
 refine wp_region_S (fun w'=>∃u,w'=over (u4) u) [] [(0,0),(0,2),(1,1),(1,3),(0,4)] (by kernel_rfl) (by kernel_rfl) (by exact ⟨_,below_over (by repeat (first|assumption|exact Below.refl _ _|refine keep_drew ?_|refine keep_alloc ?_ _|refine keep_trans ?_ (by assumption)))⟩) ?_
 dsimp only[pickOps,nthOp]
 repeat (first|(refine wpS_skip rfl (fun K hK=>?_);go_big_quiet_op;refine hK _ ?_;clear hK K)|(refine wpS_quiet rfl rfl (fun K hK=>?_);go_big_quiet_op;refine hK _ ?_;clear hK K)|(refine wpS_loud ?_;go_wp2_with (first|(go_at_call 58;(with_reducible refine (H5.out _ (keep_trans HB.out (by (repeat (first|assumption|exact Below.refl _ _|refine keep_drew ?_|refine keep_alloc ?_ _|refine keep_trans ?_ (by assumption)))))).mono ?_);rintro _ u5 ⟨rfl,hbu5⟩)|(go_at_call 22;(with_reducible refine (H6.out _ (keep_trans HB.out (by (repeat (first|assumption|exact Below.refl _ _|refine keep_drew ?_|refine keep_alloc ?_ _|refine keep_trans ?_ (by assumption)))))).mono ?_);rintro _ u6 ⟨rfl,hbu6⟩)|fail);refine ⟨?_,?_⟩;focus (exact ⟨_,below_over (by repeat (first|assumption|exact Below.refl _ _|refine keep_drew ?_|refine keep_alloc ?_ _|refine keep_trans ?_ (by assumption)))⟩)))
 refine wpS_end ?_
 clear x0 x1 x2 xl
 have hmv:Below u4.heap.size u4 u6:=(by (repeat (first|assumption|exact Below.refl _ _|refine keep_drew ?_|refine keep_alloc ?_ _|refine keep_trans ?_ (by assumption))))
 replace Q0:=Lib.hid (keepq hmv Q0.out)
 replace Q1:=Lib.hid (keepq hmv Q1.out)
 replace Q7:=Lib.hid (keepq hmv Q7.out)
 replace Q9:=Lib.hid (keepq hmv Q9.out)
 replace Q11:=Lib.hid (keepq hmv Q11.out)
 replace Q12:=Lib.hid (keepq hmv Q12.out)
 replace IA:=Lib.hid (IA.out.mono hmv)
 replace IB:=Lib.hid (IB.out.mono hmv)
 replace IE:=Lib.hid (IE.out.mono hmv)
 replace ID:=Lib.hid (ID.out.mono hmv)
 replace GF:=Lib.hid (GF.out.below hmv)
 replace HB:=Lib.hid (keep_trans HB.out hmv)
 clear hmv hbu5 hbu6
 go_upto_region 10 with (first|(go_at_call 59;(with_reducible refine (H7.out _).mono ?_);rintro _ u7 ⟨rfl,hbu7⟩)|fail)
 have hmv:Below u6.heap.size u6 u7:=hbu7
 replace Q0:=Lib.hid (keepq hmv Q0.out)
 replace Q1:=Lib.hid (keepq hmv Q1.out)
 replace Q7:=Lib.hid (keepq hmv Q7.out)
 replace Q9:=Lib.hid (keepq hmv Q9.out)
 replace Q11:=Lib.hid (keepq hmv Q11.out)
 replace Q12:=Lib.hid (keepq hmv Q12.out)
 replace IA:=Lib.hid (IA.out.mono hmv)
 replace IB:=Lib.hid (IB.out.mono hmv)
 replace IE:=Lib.hid (IE.out.mono hmv)
 replace ID:=Lib.hid (ID.out.mono hmv)
 replace GF:=Lib.hid (GF.out.below hmv)
 replace HB:=Lib.hid (keep_trans HB.out hmv)
 clear hmv hbu7
 obtain ⟨p0,p1,p2,pl⟩:=c3_of Q7.out
 go_upto_region 12 with fail
 have RL:=Lib.hid (fun W (hb:Below u7.heap.size u7 W)=>H8.out W (keep_trans HB.out hb))
 have MA:=Lib.hid (fun W (hb:Below u7.heap.size u7 W) a7 c7 (i7:IC W a7 z1 Y1)=>lmade_v R1 R1 a1 k1 c1 X1 er1 m m a7 z1 c7 Y1 0 W true m1.out (IA.out.mono hb) i7)
 refine wp_region_S (fun w'=>∃u,w'=over (u7) u) [] [(0,0),(0,1),(0,2),(1,3),(1,4),(0,5)] (by kernel_rfl) (by kernel_rfl) (by exact ⟨_,below_over (by repeat (first|assumption|exact Below.refl _ _|refine keep_drew ?_|refine keep_alloc ?_ _|refine keep_trans ?_ (by assumption)))⟩) ?_
 dsimp only[pickOps,nthOp]
 repeat (first|(refine wpS_skip rfl (fun K hK=>?_);go_big_quiet_op;refine hK _ ?_;clear hK K)|(refine wpS_quiet rfl rfl (fun K hK=>?_);go_big_quiet_op;refine hK _ ?_;clear hK K)|(refine wpS_loud ?_;go_wp2_with (first|(go_at_call 60;(with_reducible refine (RL.out _ (by (repeat (first|assumption|exact Below.refl _ _|refine keep_drew ?_|refine keep_alloc ?_ _|refine keep_trans ?_ (by assumption))))).mono ?_);rintro _ t1 ⟨a7,c7,rfl,hf7,i7,hbt1⟩)|(go_at_call 24;(with_reducible refine (MA.out _ (by (repeat (first|assumption|exact Below.refl _ _|refine keep_drew ?_|refine keep_alloc ?_ _|refine keep_trans ?_ (by assumption)))) _ _ i7).mono ?_);rintro _ t2 ⟨rfl,hbt2⟩)|fail);refine ⟨?_,?_⟩;focus (exact ⟨_,below_over (by repeat (first|assumption|exact Below.refl _ _|refine keep_drew ?_|refine keep_alloc ?_ _|refine keep_trans ?_ (by assumption)))⟩)))
 refine wpS_end ?_
 clear p0 p1 p2 pl
 have hmv:Below u7.heap.size u7 t2:=(by (repeat (first|assumption|exact Below.refl _ _|refine keep_drew ?_|refine keep_alloc ?_ _|refine keep_trans ?_ (by assumption))))
 replace Q0:=Lib.hid (keepq hmv Q0.out)
 replace Q1:=Lib.hid (keepq hmv Q1.out)
 replace Q7:=Lib.hid (keepq hmv Q7.out)
 replace Q9:=Lib.hid (keepq hmv Q9.out)
 replace Q11:=Lib.hid (keepq hmv Q11.out)
 replace Q12:=Lib.hid (keepq hmv Q12.out)
 replace IA:=Lib.hid (IA.out.mono hmv)
 replace IB:=Lib.hid (IB.out.mono hmv)
 replace IE:=Lib.hid (IE.out.mono hmv)
 replace ID:=Lib.hid (ID.out.mono hmv)
 replace GF:=Lib.hid (GF.out.below hmv)
 replace HB:=Lib.hid (keep_trans HB.out hmv)
 clear hmv hbt1 hbt2 i7 hf7 RL MA
 obtain ⟨y0,y1,yl⟩:=c2_of Q1.out
 go_upto_region 15 with fail
 go_loopw [16,18,103] (fun s16 _ s103 wr=>∃k:Nat,k≤2∧s103 = .int .i64 (k:Int)∧s16 = .int .i64 (btF A B k)∧wr=t2) (fun _ _ s103 _=>2 - (intOf s103).toNat)
 case atStart=>exact ⟨0,by omega,rfl,rfl,rfl⟩
 case round =>
  obtain ⟨k,hk,rfl,rfl,hwr⟩:=hrel
  replace hwr:=hwr.symm
  subst hwr
  by_cases hk0:k=0
  ·subst hk0
   have b0:Hid (btF A B 1=if farB A=true then 3 else btF A B 0):=rfl
   generalize btF A B 0=bv at b0 ⊢
   by_cases f1:A < -999999999
   ·have d1:decide (A < -999999999)=true:=decide_eq_true f1
    have b1:Hid (btF A B 1=3):=by unfold Hid;rw[b0.out,if_pos (by unfold farB;rw[d1];rfl)]
    clear b0
    go_wp2_with (first|(rw[ix2a])|fail)
    go_roundw
    case rel=>exact ⟨1,by omega,by go_num,by rw[b1.out],trivial⟩
    case measure=>simp[intOf]
   ·have d1:decide (A < -999999999)=false:=decide_eq_false f1
    by_cases f2:999999999<A
    ·have d2:decide (999999999<A)=true:=decide_eq_true f2
     have b1:Hid (btF A B 1=3):=by unfold Hid;rw[b0.out,if_pos (by unfold farB;rw[d1,d2];rfl)]
     clear b0
     go_wp2_with (first|(rw[ix2a])|fail)
     go_roundw
     case rel=>exact ⟨1,by omega,by go_num,by rw[b1.out],trivial⟩
     case measure=>simp[intOf]
    ·have d2:decide (999999999<A)=false:=decide_eq_false f2
     have b1:Hid (btF A B 1=bv):=by unfold Hid;rw[b0.out,if_neg (by unfold farB;rw[d1,d2];decide)]
     clear b0
     go_wp2_with (first|(rw[ix2a])|fail)
     go_roundw
     case rel=>exact ⟨1,by omega,by go_num,by rw[b1.out],trivial⟩
     case measure=>simp[intOf]
  by_cases hk1:k=1
  ·subst hk1
   have b0:Hid (btF A B 2=if farB B=true then 3 else btF A B 1):=rfl
   generalize btF A B 1=bv at b0 ⊢
   by_cases f1:B < -999999999
   ·have d1:decide (B < -999999999)=true:=decide_eq_true f1
    have b1:Hid (btF A B 2=3):=by unfold Hid;rw[b0.out,if_pos (by unfold farB;rw[d1];rfl)]
    clear b0
    go_wp2_with (first|(rw[ix2b])|fail)
    go_roundw
    case rel=>exact ⟨2,by omega,by go_num,by rw[b1.out],trivial⟩
    case measure=>simp[intOf]
   ·have d1:decide (B < -999999999)=false:=decide_eq_false f1
    by_cases f2:999999999<B
    ·have d2:decide (999999999<B)=true:=decide_eq_true f2
     have b1:Hid (btF A B 2=3):=by unfold Hid;rw[b0.out,if_pos (by unfold farB;rw[d1,d2];rfl)]
     clear b0
     go_wp2_with (first|(rw[ix2b])|fail)
     go_roundw
     case rel=>exact ⟨2,by omega,by go_num,by rw[b1.out],trivial⟩
     case measure=>simp[intOf]
    ·have d2:decide (999999999<B)=false:=decide_eq_false f2
     have b1:Hid (btF A B 2=bv):=by unfold Hid;rw[b0.out,if_neg (by unfold farB;rw[d1,d2];decide)]
     clear b0
     go_wp2_with (first|(rw[ix2b])|fail)
     go_roundw
     case rel=>exact ⟨2,by omega,by go_num,by rw[b1.out],trivial⟩
     case measure=>simp[intOf]
  have hk2:k=2:=by omega
  subst hk2
  rw[hbt.out]
  by_cases hA:gA=1
  ·have d1:(gA != 1)=false:=by simpa using hA
   have d2:(gB != 1)=true:=by simpa using hsing.out.resolve_left (fun h=>h hA)
   clear hA hsing
   go_upto_region 22 with (first|(go_at_call 62;(with_reducible refine (H9.out _).mono ?_);rintro _ _ ⟨rfl,rfl⟩)|(go_at_call 61;(with_reducible refine (HC.out _ HB.out).mono ?_);rintro _ e1 ⟨rfl,hbe1⟩;have hke1:Below t2.heap.size t2 e1:=hbe1;obtain ⟨ye10,ye11,ye1l⟩:=c2_of (keepq hke1 Q1.out))|(go_at_call 62;(with_reducible refine (HA.out _).mono ?_);rintro _ _ ⟨rfl,rfl⟩)|(go_at_call 61;(with_reducible refine (HD.out _ (keep_trans HB.out hke1)).mono ?_);rintro _ e2 ⟨rfl,hbe2⟩;have hke2:Below t2.heap.size t2 e2:=keep_trans hke1 hbe2)|fail)
   clear y0 y1 yl ye10 ye11 ye1l
   have hmv:Below t2.heap.size t2 e2:=hke2
   replace Q0:=Lib.hid (keepq hmv Q0.out)
   replace Q1:=Lib.hid (keepq hmv Q1.out)
   replace Q7:=Lib.hid (keepq hmv Q7.out)
   replace Q9:=Lib.hid (keepq hmv Q9.out)
   replace Q11:=Lib.hid (keepq hmv Q11.out)
   replace Q12:=Lib.hid (keepq hmv Q12.out)
   replace IA:=Lib.hid (IA.out.mono hmv)
   replace IB:=Lib.hid (IB.out.mono hmv)
   replace IE:=Lib.hid (IE.out.mono hmv)
   replace ID:=Lib.hid (ID.out.mono hmv)
   replace GF:=Lib.hid (GF.out.below hmv)
   replace HB:=Lib.hid (keep_trans HB.out hmv)
   clear hmv hbe1 hke1 hbe2 hke2
   go_upto_region 23 with fail
   have gsz:(e2.alloc (.cells #[.int .i64 0,.int .i64 0,.slice none 0 0] 24)).heap.size=e2.heap.size+1:=by simp only[World.size_alloc]
   have gB:Below e2.heap.size e2 (e2.alloc (.cells #[.int .i64 0,.int .i64 0,.slice none 0 0] 24)):=(Below.refl _ _).alloc (Nat.le_refl _) _
   have gq0:(e2.alloc (.cells #[.int .i64 0,.int .i64 0,.slice none 0 0] 24)).heap[e2.heap.size]?=some (.cells #[.int .i64 0,.int .i64 0,.slice none 0 0] 24 (0,0)):=by have h:=World.alloc_heap_new e2 (.cells #[.int .i64 0,.int .i64 0,.slice none 0 0] 24);exact h
   generalize (e2.alloc (.cells #[.int .i64 0,.int .i64 0,.slice none 0 0] 24))=V9 at gsz gB gq0 ⊢
   have Q19:=Lib.hid gq0
   have GB:=Lib.hid gB
   clear gsz gq0 gB
   have hmv:Below e2.heap.size e2 V9:=GB.out
   replace Q0:=Lib.hid (keepq hmv Q0.out)
   replace Q1:=Lib.hid (keepq hmv Q1.out)
   replace Q7:=Lib.hid (keepq hmv Q7.out)
   replace Q9:=Lib.hid (keepq hmv Q9.out)
   replace Q11:=Lib.hid (keepq hmv Q11.out)
   replace Q12:=Lib.hid (keepq hmv Q12.out)
   replace IA:=Lib.hid (IA.out.mono hmv)
   replace IB:=Lib.hid (IB.out.mono hmv)
   replace IE:=Lib.hid (IE.out.mono hmv)
   replace ID:=Lib.hid (ID.out.mono hmv)
   replace GF:=Lib.hid (GF.out.below hmv)
   replace HB:=Lib.hid (keep_trans HB.out hmv)
   clear hmv
   have M2:=Lib.hid (fun W (hb:Below V9.heap.size V9 W)=>lmade_v R2 R2 a2 k2 c2 X2 er2 0 0 none 0 0 [] 18 W true m2.out (IB.out.mono hb) ⟨⟨rfl,by omega⟩,fun k hk=>absurd hk (by omega)⟩)
   obtain ⟨q0,q1,q2,ql⟩:=c3_of Q9.out
   obtain ⟨z0,z1,z2,zl⟩:=c3_of Q19.out
   go_upto_region 27 with (first|(go_at_call 24;(with_reducible refine (M2.out _ (Below.refl _ _)).mono ?_);rintro _ t5 ⟨rfl,hbt5⟩;have hkt5:Below V9.heap.size V9 t5:=hbt5)|fail)
   clear q0 q1 q2 ql z0 z1 z2 zl
   have hmv:Below V9.heap.size V9 t5:=hbt5
   replace Q0:=Lib.hid (keepq hmv Q0.out)
   replace Q1:=Lib.hid (keepq hmv Q1.out)
   replace Q7:=Lib.hid (keepq hmv Q7.out)
   replace Q9:=Lib.hid (keepq hmv Q9.out)
   replace Q11:=Lib.hid (keepq hmv Q11.out)
   replace Q12:=Lib.hid (keepq hmv Q12.out)
   replace Q19:=Lib.hid (keepq hmv Q19.out)
   replace IA:=Lib.hid (IA.out.mono hmv)
   replace IB:=Lib.hid (IB.out.mono hmv)
   replace IE:=Lib.hid (IE.out.mono hmv)
   replace ID:=Lib.hid (ID.out.mono hmv)
   replace GF:=Lib.hid (GF.out.below hmv)
   replace HB:=Lib.hid (keep_trans HB.out hmv)
   clear hmv hbt5 hkt5 M2
   go_upto_region 29 with (first|(go_at_call 63;(with_reducible refine (HF.out _ HB.out).mono ?_);rintro _ t6 ⟨rfl,hbt6⟩)|fail)
   have hmv:Below t5.heap.size t5 t6:=hbt6
   replace Q0:=Lib.hid (keepq hmv Q0.out)
   replace Q1:=Lib.hid (keepq hmv Q1.out)
   replace Q7:=Lib.hid (keepq hmv Q7.out)
   replace Q9:=Lib.hid (keepq hmv Q9.out)
   replace Q11:=Lib.hid (keepq hmv Q11.out)
   replace Q12:=Lib.hid (keepq hmv Q12.out)
   replace Q19:=Lib.hid (keepq hmv Q19.out)
   replace IA:=Lib.hid (IA.out.mono hmv)
   replace IB:=Lib.hid (IB.out.mono hmv)
   replace IE:=Lib.hid (IE.out.mono hmv)
   replace ID:=Lib.hid (ID.out.mono hmv)
   replace GF:=Lib.hid (GF.out.below hmv)
   replace HB:=Lib.hid (keep_trans HB.out hmv)
   clear hmv hbt6
   go_upto_region 30 with (first|(go_at_call 64;(with_reducible refine (HG.out _ HB.out).mono ?_);rintro _ u8 ⟨a8,c8,a9,c9,rfl,ig8,ig9,hbu8⟩)|fail)
   have gsz:((u8.alloc (.cells #[.int .i64 R3,.int .i64 R3,.slice a8 k3 c8] 24)).alloc (.cells #[.int .i64 R3,.int .i64 R3,.slice a9 k4 c9] 24)).heap.size=u8.heap.size+2:=by simp only[World.size_alloc] <;> omega
   have gB:Below u8.heap.size u8 ((u8.alloc (.cells #[.int .i64 R3,.int .i64 R3,.slice a8 k3 c8] 24)).alloc (.cells #[.int .i64 R3,.int .i64 R3,.slice a9 k4 c9] 24)):=((Below.refl _ _).alloc (Nat.le_refl _) _).alloc (by simp only[World.size_alloc];omega) _
   have gq0:((u8.alloc (.cells #[.int .i64 R3,.int .i64 R3,.slice a8 k3 c8] 24)).alloc (.cells #[.int .i64 R3,.int .i64 R3,.slice a9 k4 c9] 24)).heap[u8.heap.size]?=some (.cells #[.int .i64 R3,.int .i64 R3,.slice a8 k3 c8] 24 (0,0)):=by have h:=World.alloc_heap_new u8 (.cells #[.int .i64 R3,.int .i64 R3,.slice a8 k3 c8] 24);exact (Below.heap_alloc _ _ _ (by simp only[World.size_alloc];omega)).trans (h)
   have gq1:((u8.alloc (.cells #[.int .i64 R3,.int .i64 R3,.slice a8 k3 c8] 24)).alloc (.cells #[.int .i64 R3,.int .i64 R3,.slice a9 k4 c9] 24)).heap[u8.heap.size+1]?=some (.cells #[.int .i64 R3,.int .i64 R3,.slice a9 k4 c9] 24 (0,0)):=by have h:=World.alloc_heap_new (u8.alloc (.cells #[.int .i64 R3,.int .i64 R3,.slice a8 k3 c8] 24)) (.cells #[.int .i64 R3,.int .i64 R3,.slice a9 k4 c9] 24);simp only[World.size_alloc] at h;exact h
   generalize ((u8.alloc (.cells #[.int .i64 R3,.int .i64 R3,.slice a8 k3 c8] 24)).alloc (.cells #[.int .i64 R3,.int .i64 R3,.slice a9 k4 c9] 24))=V8 at gsz gB gq0 gq1 ⊢
   have hmv:Below t6.heap.size t6 V8:=keep_trans hbu8 gB
   replace Q0:=Lib.hid (keepq hmv Q0.out)
   replace Q1:=Lib.hid (keepq hmv Q1.out)
   replace Q7:=Lib.hid (keepq hmv Q7.out)
   replace Q9:=Lib.hid (keepq hmv Q9.out)
   replace Q11:=Lib.hid (keepq hmv Q11.out)
   replace Q12:=Lib.hid (keepq hmv Q12.out)
   replace Q19:=Lib.hid (keepq hmv Q19.out)
   replace IA:=Lib.hid (IA.out.mono hmv)
   replace IB:=Lib.hid (IB.out.mono hmv)
   replace IE:=Lib.hid (IE.out.mono hmv)
   replace ID:=Lib.hid (ID.out.mono hmv)
   replace GF:=Lib.hid (GF.out.below hmv)
   replace HB:=Lib.hid (keep_trans HB.out hmv)
   clear hmv
   have Q20:=Lib.hid gq0
   have Q21:=Lib.hid gq1
   have IG:=Lib.hid (ig8.mono gB)
   have IH:=Lib.hid (ig9.mono gB)
   clear hbu8 gsz gq0 gq1 gB ig8 ig9
   have M3:=Lib.hid (fun W (hb:Below V8.heap.size V8 W)=>lmade_v R3 R3 a3 k3 c3 X3 er3 R3 R3 a8 k3 c8 X3 0 W true m3.out (IE.out.mono hb) (IG.out.mono hb))
   have SM:=Lib.hid (fun W (hb:Below V8.heap.size V8 W)=>rsame_c R3 R3 a4 k4 c4 X4 R3 R3 a9 k4 c9 X4 W (ID.out.mono hb) (IH.out.mono hb))
   rw[m4.out] at SM
   have FM:=Lib.hid (fun W (hb:Below V8.heap.size V8 W)=>HI.out W (keep_trans HB.out hb))
   have GS:=Lib.hid (fun W (hb:Below V8.heap.size V8 W) a6 c6 (h6:GL W a6 k5 NN css)=>lgrids_t a5 k5 c5 NN css a6 c6 W (GF.out.below hb) h6 (by have:=hk5.out;omega))
   obtain ⟨s0,s1,s2,sl⟩:=c3_of Q11.out
   obtain ⟨v0,v1,v2,vl⟩:=c3_of Q20.out
   go_wp2_with (first|(go_at_call 24;(with_reducible refine (M3.out _ (Below.refl _ _)).mono ?_);rintro _ t7 ⟨rfl,hbt7⟩;have hkt7:Below V8.heap.size V8 t7:=hbt7;obtain ⟨tt70,tt71,tt72,tt7l⟩:=c3_of (keepq hkt7 Q12.out);obtain ⟨ut70,ut71,ut72,ut7l⟩:=c3_of (keepq hkt7 Q21.out))|(go_at_call 43;(with_reducible refine (SM.out _ (hkt7)).mono ?_);rintro _ t8 ⟨rfl,hbt8⟩;have hkt8:Below V8.heap.size V8 t8:=keep_trans hkt7 hbt8)|(go_at_call 65;(with_reducible refine (FM.out _ hkt8).mono ?_);rintro _ t9 ⟨a6,c6,rfl,gl6,hbt9⟩;have hkt9:=keep_trans hkt8 hbt9)|(go_at_call 29;(with_reducible refine (GS.out _ hkt9 _ _ gl6).mono ?_);rintro _ t10 ⟨rfl,hbt10⟩)|(go_at_call 20;refine (awake4_c _).mono ?_;rintro _ wz ⟨rfl,hbz⟩)|fail)
   refine bodyPost_ret (v := .bool true) ?_ rfl ⟨rfl,keep_trans HB.out (keep_trans (keep_trans hkt9 hbt10) hbz)⟩
   simp[results,Tryz.f11,go_sem]
  ·have d1:(gA != 1)=true:=by simpa using hA
   clear hA hsing
   go_upto_region 22 with (first|(go_at_call 62;(with_reducible refine (H9.out _).mono ?_);rintro _ _ ⟨rfl,rfl⟩)|(go_at_call 61;(with_reducible refine (HC.out _ HB.out).mono ?_);rintro _ e1 ⟨rfl,hbe1⟩;have hke1:Below t2.heap.size t2 e1:=hbe1)|fail)
   clear y0 y1 yl
   have hmv:Below t2.heap.size t2 e1:=hke1
   replace Q0:=Lib.hid (keepq hmv Q0.out)
   replace Q1:=Lib.hid (keepq hmv Q1.out)
   replace Q7:=Lib.hid (keepq hmv Q7.out)
   replace Q9:=Lib.hid (keepq hmv Q9.out)
   replace Q11:=Lib.hid (keepq hmv Q11.out)
   replace Q12:=Lib.hid (keepq hmv Q12.out)
   replace IA:=Lib.hid (IA.out.mono hmv)
   replace IB:=Lib.hid (IB.out.mono hmv)
   replace IE:=Lib.hid (IE.out.mono hmv)
   replace ID:=Lib.hid (ID.out.mono hmv)
   replace GF:=Lib.hid (GF.out.below hmv)
   replace HB:=Lib.hid (keep_trans HB.out hmv)
   clear hmv hbe1 hke1
   go_upto_region 23 with fail
   have gsz:(e1.alloc (.cells #[.int .i64 0,.int .i64 0,.slice none 0 0] 24)).heap.size=e1.heap.size+1:=by simp only[World.size_alloc]
   have gB:Below e1.heap.size e1 (e1.alloc (.cells #[.int .i64 0,.int .i64 0,.slice none 0 0] 24)):=(Below.refl _ _).alloc (Nat.le_refl _) _
   have gq0:(e1.alloc (.cells #[.int .i64 0,.int .i64 0,.slice none 0 0] 24)).heap[e1.heap.size]?=some (.cells #[.int .i64 0,.int .i64 0,.slice none 0 0] 24 (0,0)):=by have h:=World.alloc_heap_new e1 (.cells #[.int .i64 0,.int .i64 0,.slice none 0 0] 24);exact h
   generalize (e1.alloc (.cells #[.int .i64 0,.int .i64 0,.slice none 0 0] 24))=V9 at gsz gB gq0 ⊢
   have Q19:=Lib.hid gq0
   have GB:=Lib.hid gB
   clear gsz gq0 gB
   have hmv:Below e1.heap.size e1 V9:=GB.out
   replace Q0:=Lib.hid (keepq hmv Q0.out)
   replace Q1:=Lib.hid (keepq hmv Q1.out)
   replace Q7:=Lib.hid (keepq hmv Q7.out)
   replace Q9:=Lib.hid (keepq hmv Q9.out)
   replace Q11:=Lib.hid (keepq hmv Q11.out)
   replace Q12:=Lib.hid (keepq hmv Q12.out)
   replace IA:=Lib.hid (IA.out.mono hmv)
   replace IB:=Lib.hid (IB.out.mono hmv)
   replace IE:=Lib.hid (IE.out.mono hmv)
   replace ID:=Lib.hid (ID.out.mono hmv)
   replace GF:=Lib.hid (GF.out.below hmv)
   replace HB:=Lib.hid (keep_trans HB.out hmv)
   clear hmv
   have M2:=Lib.hid (fun W (hb:Below V9.heap.size V9 W)=>lmade_v R2 R2 a2 k2 c2 X2 er2 0 0 none 0 0 [] 18 W true m2.out (IB.out.mono hb) ⟨⟨rfl,by omega⟩,fun k hk=>absurd hk (by omega)⟩)
   obtain ⟨q0,q1,q2,ql⟩:=c3_of Q9.out
   obtain ⟨z0,z1,z2,zl⟩:=c3_of Q19.out
   go_upto_region 27 with (first|(go_at_call 24;(with_reducible refine (M2.out _ (Below.refl _ _)).mono ?_);rintro _ t5 ⟨rfl,hbt5⟩;have hkt5:Below V9.heap.size V9 t5:=hbt5)|fail)
   clear q0 q1 q2 ql z0 z1 z2 zl
   have hmv:Below V9.heap.size V9 t5:=hbt5
   replace Q0:=Lib.hid (keepq hmv Q0.out)
   replace Q1:=Lib.hid (keepq hmv Q1.out)
   replace Q7:=Lib.hid (keepq hmv Q7.out)
   replace Q9:=Lib.hid (keepq hmv Q9.out)
   replace Q11:=Lib.hid (keepq hmv Q11.out)
   replace Q12:=Lib.hid (keepq hmv Q12.out)
   replace Q19:=Lib.hid (keepq hmv Q19.out)
   replace IA:=Lib.hid (IA.out.mono hmv)
   replace IB:=Lib.hid (IB.out.mono hmv)
   replace IE:=Lib.hid (IE.out.mono hmv)
   replace ID:=Lib.hid (ID.out.mono hmv)
   replace GF:=Lib.hid (GF.out.below hmv)
   replace HB:=Lib.hid (keep_trans HB.out hmv)
   clear hmv hbt5 hkt5 M2
   go_upto_region 29 with (first|(go_at_call 63;(with_reducible refine (HF.out _ HB.out).mono ?_);rintro _ t6 ⟨rfl,hbt6⟩)|fail)
   have hmv:Below t5.heap.size t5 t6:=hbt6
   replace Q0:=Lib.hid (keepq hmv Q0.out)
   replace Q1:=Lib.hid (keepq hmv Q1.out)
   replace Q7:=Lib.hid (keepq hmv Q7.out)
   replace Q9:=Lib.hid (keepq hmv Q9.out)
   replace Q11:=Lib.hid (keepq hmv Q11.out)
   replace Q12:=Lib.hid (keepq hmv Q12.out)
   replace Q19:=Lib.hid (keepq hmv Q19.out)
   replace IA:=Lib.hid (IA.out.mono hmv)
   replace IB:=Lib.hid (IB.out.mono hmv)
   replace IE:=Lib.hid (IE.out.mono hmv)
   replace ID:=Lib.hid (ID.out.mono hmv)
   replace GF:=Lib.hid (GF.out.below hmv)
   replace HB:=Lib.hid (keep_trans HB.out hmv)
   clear hmv hbt6
   go_upto_region 30 with (first|(go_at_call 64;(with_reducible refine (HG.out _ HB.out).mono ?_);rintro _ u8 ⟨a8,c8,a9,c9,rfl,ig8,ig9,hbu8⟩)|fail)
   have gsz:((u8.alloc (.cells #[.int .i64 R3,.int .i64 R3,.slice a8 k3 c8] 24)).alloc (.cells #[.int .i64 R3,.int .i64 R3,.slice a9 k4 c9] 24)).heap.size=u8.heap.size+2:=by simp only[World.size_alloc] <;> omega
   have gB:Below u8.heap.size u8 ((u8.alloc (.cells #[.int .i64 R3,.int .i64 R3,.slice a8 k3 c8] 24)).alloc (.cells #[.int .i64 R3,.int .i64 R3,.slice a9 k4 c9] 24)):=((Below.refl _ _).alloc (Nat.le_refl _) _).alloc (by simp only[World.size_alloc];omega) _
   have gq0:((u8.alloc (.cells #[.int .i64 R3,.int .i64 R3,.slice a8 k3 c8] 24)).alloc (.cells #[.int .i64 R3,.int .i64 R3,.slice a9 k4 c9] 24)).heap[u8.heap.size]?=some (.cells #[.int .i64 R3,.int .i64 R3,.slice a8 k3 c8] 24 (0,0)):=by have h:=World.alloc_heap_new u8 (.cells #[.int .i64 R3,.int .i64 R3,.slice a8 k3 c8] 24);exact (Below.heap_alloc _ _ _ (by simp only[World.size_alloc];omega)).trans (h)
   have gq1:((u8.alloc (.cells #[.int .i64 R3,.int .i64 R3,.slice a8 k3 c8] 24)).alloc (.cells #[.int .i64 R3,.int .i64 R3,.slice a9 k4 c9] 24)).heap[u8.heap.size+1]?=some (.cells #[.int .i64 R3,.int .i64 R3,.slice a9 k4 c9] 24 (0,0)):=by have h:=World.alloc_heap_new (u8.alloc (.cells #[.int .i64 R3,.int .i64 R3,.slice a8 k3 c8] 24)) (.cells #[.int .i64 R3,.int .i64 R3,.slice a9 k4 c9] 24);simp only[World.size_alloc] at h;exact h
   generalize ((u8.alloc (.cells #[.int .i64 R3,.int .i64 R3,.slice a8 k3 c8] 24)).alloc (.cells #[.int .i64 R3,.int .i64 R3,.slice a9 k4 c9] 24))=V8 at gsz gB gq0 gq1 ⊢
   have hmv:Below t6.heap.size t6 V8:=keep_trans hbu8 gB
   replace Q0:=Lib.hid (keepq hmv Q0.out)
   replace Q1:=Lib.hid (keepq hmv Q1.out)
   replace Q7:=Lib.hid (keepq hmv Q7.out)
   replace Q9:=Lib.hid (keepq hmv Q9.out)
   replace Q11:=Lib.hid (keepq hmv Q11.out)
   replace Q12:=Lib.hid (keepq hmv Q12.out)
   replace Q19:=Lib.hid (keepq hmv Q19.out)
   replace IA:=Lib.hid (IA.out.mono hmv)
   replace IB:=Lib.hid (IB.out.mono hmv)
   replace IE:=Lib.hid (IE.out.mono hmv)
   replace ID:=Lib.hid (ID.out.mono hmv)
   replace GF:=Lib.hid (GF.out.below hmv)
   replace HB:=Lib.hid (keep_trans HB.out hmv)
   clear hmv
   have Q20:=Lib.hid gq0
   have Q21:=Lib.hid gq1
   have IG:=Lib.hid (ig8.mono gB)
   have IH:=Lib.hid (ig9.mono gB)
   clear hbu8 gsz gq0 gq1 gB ig8 ig9
   have M3:=Lib.hid (fun W (hb:Below V8.heap.size V8 W)=>lmade_v R3 R3 a3 k3 c3 X3 er3 R3 R3 a8 k3 c8 X3 0 W true m3.out (IE.out.mono hb) (IG.out.mono hb))
   have SM:=Lib.hid (fun W (hb:Below V8.heap.size V8 W)=>rsame_c R3 R3 a4 k4 c4 X4 R3 R3 a9 k4 c9 X4 W (ID.out.mono hb) (IH.out.mono hb))
   rw[m4.out] at SM
   have FM:=Lib.hid (fun W (hb:Below V8.heap.size V8 W)=>HI.out W (keep_trans HB.out hb))
   have GS:=Lib.hid (fun W (hb:Below V8.heap.size V8 W) a6 c6 (h6:GL W a6 k5 NN css)=>lgrids_t a5 k5 c5 NN css a6 c6 W (GF.out.below hb) h6 (by have:=hk5.out;omega))
   obtain ⟨s0,s1,s2,sl⟩:=c3_of Q11.out
   obtain ⟨v0,v1,v2,vl⟩:=c3_of Q20.out
   go_wp2_with (first|(go_at_call 24;(with_reducible refine (M3.out _ (Below.refl _ _)).mono ?_);rintro _ t7 ⟨rfl,hbt7⟩;have hkt7:Below V8.heap.size V8 t7:=hbt7;obtain ⟨tt70,tt71,tt72,tt7l⟩:=c3_of (keepq hkt7 Q12.out);obtain ⟨ut70,ut71,ut72,ut7l⟩:=c3_of (keepq hkt7 Q21.out))|(go_at_call 43;(with_reducible refine (SM.out _ (hkt7)).mono ?_);rintro _ t8 ⟨rfl,hbt8⟩;have hkt8:Below V8.heap.size V8 t8:=keep_trans hkt7 hbt8)|(go_at_call 65;(with_reducible refine (FM.out _ hkt8).mono ?_);rintro _ t9 ⟨a6,c6,rfl,gl6,hbt9⟩;have hkt9:=keep_trans hkt8 hbt9)|(go_at_call 29;(with_reducible refine (GS.out _ hkt9 _ _ gl6).mono ?_);rintro _ t10 ⟨rfl,hbt10⟩)|(go_at_call 20;refine (awake4_c _).mono ?_;rintro _ wz ⟨rfl,hbz⟩)|fail)
   refine bodyPost_ret (v := .bool true) ?_ rfl ⟨rfl,keep_trans HB.out (keep_trans (keep_trans hkt9 hbt10) hbz)⟩
   simp[results,Tryz.f11,go_sem]
theorem ltab_SN (r C:Int) (a:Option Addr) (n c:Nat) (m A B:Int) (w:World) (h0:¬300<n) (ea:Int) (R1:Int) (k1:Nat) (X1:List Int) (er1:Int) (R2:Int) (k2:Nat) (X2:List Int) (er2:Int) (R3:Int) (k3 k4:Nat) (X3 X4:List Int) (er3:Int) (k5 NN:Nat) (css:List (List Int)) (hk5:k5≤1000) (er5:Int) (z1:Nat) (Y1:List Int) (m1:madeB R1 R1 X1 er1 m m Y1 0=true) (hbt:btF A B 2=0) (pA pB:Int) (gA gB:Int) (hsing:gA≠1∨gB≠1) (m2:madeB R2 R2 X2 er2 0 0 [] 18=true) (he5:er5=15) (hk0:k5=0) (m3:madeB R3 R3 X3 er3 0 0 [] 15=true) (m4:sameG R3 R3 X4 0 0 []=true)
  (H1:tG w 54 #[.int .i64 m] R1 k1 X1 er1) (H2:tG w 55 #[.int .i64 m,.int .i64 A,.int .i64 B] R2 k2 X2 er2) (H3:tF w m R3 k3 k4 X3 X4 er3) (H4:tL w m k5 NN css er5) (H5:tH w 58 #[.agg #[.int .i64 r,.int .i64 C,.slice a n c]] (.int .i64 ea)) (H6:tH w 22 #[.agg #[.int .i64 r,.int .i64 C,.slice a n c]] (.int .i64 ea)) (H7:∀W,Calls Tryz.prog 59 #[.int .i64 m] W fun e w'=>e = .returned (.int .i64 0)∧Below W.heap.size W w') (H8:tR w #[.int .i64 m,.int .i64 1,.int .i64 1] m z1 Y1) (H9:∀W,Calls Tryz.prog 62 #[.int .i64 A,.int .i64 m] W fun e w'=>e = .returned (.int .i64 pA)∧W=w') (HA:∀W,Calls Tryz.prog 62 #[.int .i64 B,.int .i64 m] W fun e w'=>e = .returned (.int .i64 pB)∧W=w') (HC:tH w 61 #[.int .i64 pA,.int .i64 m] (.int .i64 gA)) (HD:tH w 61 #[.int .i64 pB,.int .i64 m] (.int .i64 gB)) (HF:tH w 63 #[.int .i64 m] (.bool false)):Calls Tryz.prog 11 #[.agg #[.int .i64 r,.int .i64 C,.slice a n c],.int .i64 m,.agg #[.int .i64 A,.int .i64 B]] w fun e w'=>e = .returned (.bool true)∧Below w.heap.size w w':=by
 subst hk0
 subst he5
 have hg0:decide ((300:Int)<(n:Int))=false:=decide_eq_false (by omega)
 have e1:(ea != ea)=false:=by simp
 have H1:=Lib.hid H1
 have H2:=Lib.hid H2
 have H3:=Lib.hid H3
 have H4:=Lib.hid H4
 have H5:=Lib.hid H5
 have H6:=Lib.hid H6
 have hk5:=Lib.hid hk5
 have H7:=Lib.hid H7
 have m1:=Lib.hid m1
 have H8:=Lib.hid H8
 have m2:=Lib.hid m2
 have hbt:=Lib.hid hbt
 have H9:=Lib.hid H9
 have HA:=Lib.hid HA
 have HC:=Lib.hid HC
 have HD:=Lib.hid HD
 have HF:=Lib.hid HF
 have m3:=Lib.hid m3
 have m4:=Lib.hid m4
 have hsing:=Lib.hid hsing
 go_enter Tryz.func11,Tryz.ntmps11
 go_upto_region 1 with fail
 have fsz:((w.alloc (.cells #[.int .i64 r,.int .i64 C,.slice a n c] 24)).alloc (.cells #[.int .i64 A,.int .i64 B] 62)).heap.size=w.heap.size+2:=by simp only[World.size_alloc] <;> omega
 have fB:Below w.heap.size w ((w.alloc (.cells #[.int .i64 r,.int .i64 C,.slice a n c] 24)).alloc (.cells #[.int .i64 A,.int .i64 B] 62)):=((Below.refl _ _).alloc (Nat.le_refl _) _).alloc (by simp only[World.size_alloc];omega) _
 have fq0:((w.alloc (.cells #[.int .i64 r,.int .i64 C,.slice a n c] 24)).alloc (.cells #[.int .i64 A,.int .i64 B] 62)).heap[w.heap.size]?=some (.cells #[.int .i64 r,.int .i64 C,.slice a n c] 24 (0,0)):=by have h:=World.alloc_heap_new w (.cells #[.int .i64 r,.int .i64 C,.slice a n c] 24);exact (Below.heap_alloc _ _ _ (by simp only[World.size_alloc];omega)).trans (h)
 have fq1:((w.alloc (.cells #[.int .i64 r,.int .i64 C,.slice a n c] 24)).alloc (.cells #[.int .i64 A,.int .i64 B] 62)).heap[w.heap.size+1]?=some (.cells #[.int .i64 A,.int .i64 B] 62 (0,0)):=by have h:=World.alloc_heap_new (w.alloc (.cells #[.int .i64 r,.int .i64 C,.slice a n c] 24)) (.cells #[.int .i64 A,.int .i64 B] 62);simp only[World.size_alloc] at h;exact h
 generalize ((w.alloc (.cells #[.int .i64 r,.int .i64 C,.slice a n c] 24)).alloc (.cells #[.int .i64 A,.int .i64 B] 62))=W0 at fsz fB fq0 fq1 ⊢
 have Q0:=Lib.hid fq0
 have Q1:=Lib.hid fq1
 have HB:=Lib.hid fB
 clear fq0 fq1 fsz fB
 obtain ⟨x0,x1,x2,xl⟩:=c3_of Q0.out
 go_upto_region 3 with (first|(go_at_call 19;(with_reducible refine (lgreat_c r C a n c 300 _).mono ?_);rintro _ g1 ⟨rfl,hbg1⟩)|fail)
 clear x0 x1 x2 xl
 have hmv:Below W0.heap.size W0 g1:=hbg1
 replace Q0:=Lib.hid (keepq hmv Q0.out)
 replace Q1:=Lib.hid (keepq hmv Q1.out)
 replace HB:=Lib.hid (keep_trans HB.out hmv)
 clear hmv hbg1
 go_upto_region 4 with (first|(go_at_call 54;(with_reducible refine (H1.out _ HB.out).mono ?_);rintro _ u1 ⟨a1,c1,rfl,ia,hbu1⟩)|fail)
 have gsz:(u1.alloc (.cells #[.int .i64 R1,.int .i64 R1,.slice a1 k1 c1] 24)).heap.size=u1.heap.size+1:=by simp only[World.size_alloc]
 have gB:Below u1.heap.size u1 (u1.alloc (.cells #[.int .i64 R1,.int .i64 R1,.slice a1 k1 c1] 24)):=(Below.refl _ _).alloc (Nat.le_refl _) _
 have gq0:(u1.alloc (.cells #[.int .i64 R1,.int .i64 R1,.slice a1 k1 c1] 24)).heap[u1.heap.size]?=some (.cells #[.int .i64 R1,.int .i64 R1,.slice a1 k1 c1] 24 (0,0)):=by have h:=World.alloc_heap_new u1 (.cells #[.int .i64 R1,.int .i64 R1,.slice a1 k1 c1] 24);exact h
 generalize (u1.alloc (.cells #[.int .i64 R1,.int .i64 R1,.slice a1 k1 c1] 24))=V1 at gsz gB gq0 ⊢
 have hmv:Below g1.heap.size g1 V1:=keep_trans hbu1 gB
 replace Q0:=Lib.hid (keepq hmv Q0.out)
 replace Q1:=Lib.hid (keepq hmv Q1.out)
 replace HB:=Lib.hid (keep_trans HB.out hmv)
 clear hmv
 have Q7:=Lib.hid gq0
 have IA:=Lib.hid (ia.mono gB)
 clear hbu1 gsz gq0 gB ia
 obtain ⟨y0,y1,yl⟩:=c2_of Q1.out
 go_upto_region 5 with (first|(go_at_call 55;(with_reducible refine (H2.out _ HB.out).mono ?_);rintro _ u2 ⟨a2,c2,rfl,ib,hbu2⟩)|fail)
 have hsz:(u2.alloc (.cells #[.int .i64 R2,.int .i64 R2,.slice a2 k2 c2] 24)).heap.size=u2.heap.size+1:=by simp only[World.size_alloc]
 have hB:Below u2.heap.size u2 (u2.alloc (.cells #[.int .i64 R2,.int .i64 R2,.slice a2 k2 c2] 24)):=(Below.refl _ _).alloc (Nat.le_refl _) _
 have hq0:(u2.alloc (.cells #[.int .i64 R2,.int .i64 R2,.slice a2 k2 c2] 24)).heap[u2.heap.size]?=some (.cells #[.int .i64 R2,.int .i64 R2,.slice a2 k2 c2] 24 (0,0)):=by have h:=World.alloc_heap_new u2 (.cells #[.int .i64 R2,.int .i64 R2,.slice a2 k2 c2] 24);exact h
 generalize (u2.alloc (.cells #[.int .i64 R2,.int .i64 R2,.slice a2 k2 c2] 24))=V2 at hsz hB hq0 ⊢
 clear y0 y1 yl
 have hmv:Below V1.heap.size V1 V2:=keep_trans hbu2 hB
 replace Q0:=Lib.hid (keepq hmv Q0.out)
 replace Q1:=Lib.hid (keepq hmv Q1.out)
 replace Q7:=Lib.hid (keepq hmv Q7.out)
 replace IA:=Lib.hid (IA.out.mono hmv)
 replace HB:=Lib.hid (keep_trans HB.out hmv)
 clear hmv
 have Q9:=Lib.hid hq0
 have IB:=Lib.hid (ib.mono hB)
 clear hbu2 hsz hq0 hB ib
 go_upto_region 6 with (first|(go_at_call 56;(with_reducible refine (H3.out _ HB.out).mono ?_);rintro _ u3 ⟨a3,c3,a4,c4,rfl,ic3,id4,hbu3⟩)|fail)
 have gsz:((u3.alloc (.cells #[.int .i64 R3,.int .i64 R3,.slice a3 k3 c3] 24)).alloc (.cells #[.int .i64 R3,.int .i64 R3,.slice a4 k4 c4] 24)).heap.size=u3.heap.size+2:=by simp only[World.size_alloc] <;> omega
 have gB:Below u3.heap.size u3 ((u3.alloc (.cells #[.int .i64 R3,.int .i64 R3,.slice a3 k3 c3] 24)).alloc (.cells #[.int .i64 R3,.int .i64 R3,.slice a4 k4 c4] 24)):=((Below.refl _ _).alloc (Nat.le_refl _) _).alloc (by simp only[World.size_alloc];omega) _
 have gq0:((u3.alloc (.cells #[.int .i64 R3,.int .i64 R3,.slice a3 k3 c3] 24)).alloc (.cells #[.int .i64 R3,.int .i64 R3,.slice a4 k4 c4] 24)).heap[u3.heap.size]?=some (.cells #[.int .i64 R3,.int .i64 R3,.slice a3 k3 c3] 24 (0,0)):=by have h:=World.alloc_heap_new u3 (.cells #[.int .i64 R3,.int .i64 R3,.slice a3 k3 c3] 24);exact (Below.heap_alloc _ _ _ (by simp only[World.size_alloc];omega)).trans (h)
 have gq1:((u3.alloc (.cells #[.int .i64 R3,.int .i64 R3,.slice a3 k3 c3] 24)).alloc (.cells #[.int .i64 R3,.int .i64 R3,.slice a4 k4 c4] 24)).heap[u3.heap.size+1]?=some (.cells #[.int .i64 R3,.int .i64 R3,.slice a4 k4 c4] 24 (0,0)):=by have h:=World.alloc_heap_new (u3.alloc (.cells #[.int .i64 R3,.int .i64 R3,.slice a3 k3 c3] 24)) (.cells #[.int .i64 R3,.int .i64 R3,.slice a4 k4 c4] 24);simp only[World.size_alloc] at h;exact h
 generalize ((u3.alloc (.cells #[.int .i64 R3,.int .i64 R3,.slice a3 k3 c3] 24)).alloc (.cells #[.int .i64 R3,.int .i64 R3,.slice a4 k4 c4] 24))=V3 at gsz gB gq0 gq1 ⊢
 have hmv:Below V2.heap.size V2 V3:=keep_trans hbu3 gB
 replace Q0:=Lib.hid (keepq hmv Q0.out)
 replace Q1:=Lib.hid (keepq hmv Q1.out)
 replace Q7:=Lib.hid (keepq hmv Q7.out)
 replace Q9:=Lib.hid (keepq hmv Q9.out)
 replace IA:=Lib.hid (IA.out.mono hmv)
 replace IB:=Lib.hid (IB.out.mono hmv)
 replace HB:=Lib.hid (keep_trans HB.out hmv)
 clear hmv
 have Q11:=Lib.hid gq0
 have Q12:=Lib.hid gq1
 have IE:=Lib.hid (ic3.mono gB)
 have ID:=Lib.hid (id4.mono gB)
 clear hbu3 gsz gq0 gq1 gB ic3 id4
 go_upto_region 7 with (first|(go_at_call 57;(with_reducible refine (H4.out _ HB.out).mono ?_);rintro _ u4 ⟨a5,c5,rfl,gl5,hbu4⟩)|fail)
 have hmv:Below V3.heap.size V3 u4:=hbu4
 replace Q0:=Lib.hid (keepq hmv Q0.out)
 replace Q1:=Lib.hid (keepq hmv Q1.out)
 replace Q7:=Lib.hid (keepq hmv Q7.out)
 replace Q9:=Lib.hid (keepq hmv Q9.out)
 replace Q11:=Lib.hid (keepq hmv Q11.out)
 replace Q12:=Lib.hid (keepq hmv Q12.out)
 replace IA:=Lib.hid (IA.out.mono hmv)
 replace IB:=Lib.hid (IB.out.mono hmv)
 replace IE:=Lib.hid (IE.out.mono hmv)
 replace ID:=Lib.hid (ID.out.mono hmv)
 replace HB:=Lib.hid (keep_trans HB.out hmv)
 clear hmv
 have GF:=Lib.hid gl5
 clear hbu4 gl5
 obtain ⟨x0,x1,x2,xl⟩:=c3_of Q0.out
 refine wp_region_S (fun w'=>∃u,w'=over (u4) u) [] [(0,0),(0,2),(1,1),(1,3),(0,4)] (by kernel_rfl) (by kernel_rfl) (by exact ⟨_,below_over (by repeat (first|assumption|exact Below.refl _ _|refine keep_drew ?_|refine keep_alloc ?_ _|refine keep_trans ?_ (by assumption)))⟩) ?_
 dsimp only[pickOps,nthOp]
 repeat (first|(refine wpS_skip rfl (fun K hK=>?_);go_big_quiet_op;refine hK _ ?_;clear hK K)|(refine wpS_quiet rfl rfl (fun K hK=>?_);go_big_quiet_op;refine hK _ ?_;clear hK K)|(refine wpS_loud ?_;go_wp2_with (first|(go_at_call 58;(with_reducible refine (H5.out _ (keep_trans HB.out (by (repeat (first|assumption|exact Below.refl _ _|refine keep_drew ?_|refine keep_alloc ?_ _|refine keep_trans ?_ (by assumption)))))).mono ?_);rintro _ u5 ⟨rfl,hbu5⟩)|(go_at_call 22;(with_reducible refine (H6.out _ (keep_trans HB.out (by (repeat (first|assumption|exact Below.refl _ _|refine keep_drew ?_|refine keep_alloc ?_ _|refine keep_trans ?_ (by assumption)))))).mono ?_);rintro _ u6 ⟨rfl,hbu6⟩)|fail);refine ⟨?_,?_⟩;focus (exact ⟨_,below_over (by repeat (first|assumption|exact Below.refl _ _|refine keep_drew ?_|refine keep_alloc ?_ _|refine keep_trans ?_ (by assumption)))⟩)))
 refine wpS_end ?_
 clear x0 x1 x2 xl
 have hmv:Below u4.heap.size u4 u6:=(by (repeat (first|assumption|exact Below.refl _ _|refine keep_drew ?_|refine keep_alloc ?_ _|refine keep_trans ?_ (by assumption))))
 replace Q0:=Lib.hid (keepq hmv Q0.out)
 replace Q1:=Lib.hid (keepq hmv Q1.out)
 replace Q7:=Lib.hid (keepq hmv Q7.out)
 replace Q9:=Lib.hid (keepq hmv Q9.out)
 replace Q11:=Lib.hid (keepq hmv Q11.out)
 replace Q12:=Lib.hid (keepq hmv Q12.out)
 replace IA:=Lib.hid (IA.out.mono hmv)
 replace IB:=Lib.hid (IB.out.mono hmv)
 replace IE:=Lib.hid (IE.out.mono hmv)
 replace ID:=Lib.hid (ID.out.mono hmv)
 replace GF:=Lib.hid (GF.out.below hmv)
 replace HB:=Lib.hid (keep_trans HB.out hmv)
 clear hmv hbu5 hbu6
 go_upto_region 10 with (first|(go_at_call 59;(with_reducible refine (H7.out _).mono ?_);rintro _ u7 ⟨rfl,hbu7⟩)|fail)
 have hmv:Below u6.heap.size u6 u7:=hbu7
 replace Q0:=Lib.hid (keepq hmv Q0.out)
 replace Q1:=Lib.hid (keepq hmv Q1.out)
 replace Q7:=Lib.hid (keepq hmv Q7.out)
 replace Q9:=Lib.hid (keepq hmv Q9.out)
 replace Q11:=Lib.hid (keepq hmv Q11.out)
 replace Q12:=Lib.hid (keepq hmv Q12.out)
 replace IA:=Lib.hid (IA.out.mono hmv)
 replace IB:=Lib.hid (IB.out.mono hmv)
 replace IE:=Lib.hid (IE.out.mono hmv)
 replace ID:=Lib.hid (ID.out.mono hmv)
 replace GF:=Lib.hid (GF.out.below hmv)
 replace HB:=Lib.hid (keep_trans HB.out hmv)
 clear hmv hbu7
 obtain ⟨p0,p1,p2,pl⟩:=c3_of Q7.out
 go_upto_region 12 with fail
 have RL:=Lib.hid (fun W (hb:Below u7.heap.size u7 W)=>H8.out W (keep_trans HB.out hb))
 have MA:=Lib.hid (fun W (hb:Below u7.heap.size u7 W) a7 c7 (i7:IC W a7 z1 Y1)=>lmade_v R1 R1 a1 k1 c1 X1 er1 m m a7 z1 c7 Y1 0 W true m1.out (IA.out.mono hb) i7)
 refine wp_region_S (fun w'=>∃u,w'=over (u7) u) [] [(0,0),(0,1),(0,2),(1,3),(1,4),(0,5)] (by kernel_rfl) (by kernel_rfl) (by exact ⟨_,below_over (by repeat (first|assumption|exact Below.refl _ _|refine keep_drew ?_|refine keep_alloc ?_ _|refine keep_trans ?_ (by assumption)))⟩) ?_
 dsimp only[pickOps,nthOp]
 repeat (first|(refine wpS_skip rfl (fun K hK=>?_);go_big_quiet_op;refine hK _ ?_;clear hK K)|(refine wpS_quiet rfl rfl (fun K hK=>?_);go_big_quiet_op;refine hK _ ?_;clear hK K)|(refine wpS_loud ?_;go_wp2_with (first|(go_at_call 60;(with_reducible refine (RL.out _ (by (repeat (first|assumption|exact Below.refl _ _|refine keep_drew ?_|refine keep_alloc ?_ _|refine keep_trans ?_ (by assumption))))).mono ?_);rintro _ t1 ⟨a7,c7,rfl,hf7,i7,hbt1⟩)|(go_at_call 24;(with_reducible refine (MA.out _ (by (repeat (first|assumption|exact Below.refl _ _|refine keep_drew ?_|refine keep_alloc ?_ _|refine keep_trans ?_ (by assumption)))) _ _ i7).mono ?_);rintro _ t2 ⟨rfl,hbt2⟩)|fail);refine ⟨?_,?_⟩;focus (exact ⟨_,below_over (by repeat (first|assumption|exact Below.refl _ _|refine keep_drew ?_|refine keep_alloc ?_ _|refine keep_trans ?_ (by assumption)))⟩)))
 refine wpS_end ?_
 clear p0 p1 p2 pl
 have hmv:Below u7.heap.size u7 t2:=(by (repeat (first|assumption|exact Below.refl _ _|refine keep_drew ?_|refine keep_alloc ?_ _|refine keep_trans ?_ (by assumption))))
 replace Q0:=Lib.hid (keepq hmv Q0.out)
 replace Q1:=Lib.hid (keepq hmv Q1.out)
 replace Q7:=Lib.hid (keepq hmv Q7.out)
 replace Q9:=Lib.hid (keepq hmv Q9.out)
 replace Q11:=Lib.hid (keepq hmv Q11.out)
 replace Q12:=Lib.hid (keepq hmv Q12.out)
 replace IA:=Lib.hid (IA.out.mono hmv)
 replace IB:=Lib.hid (IB.out.mono hmv)
 replace IE:=Lib.hid (IE.out.mono hmv)
 replace ID:=Lib.hid (ID.out.mono hmv)
 replace GF:=Lib.hid (GF.out.below hmv)
 replace HB:=Lib.hid (keep_trans HB.out hmv)
 clear hmv hbt1 hbt2 i7 hf7 RL MA
 obtain ⟨y0,y1,yl⟩:=c2_of Q1.out
 go_upto_region 15 with fail
 go_loopw [16,18,103] (fun s16 _ s103 wr=>∃k:Nat,k≤2∧s103 = .int .i64 (k:Int)∧s16 = .int .i64 (btF A B k)∧wr=t2) (fun _ _ s103 _=>2 - (intOf s103).toNat)
 case atStart=>exact ⟨0,by omega,rfl,rfl,rfl⟩
 case round =>
  obtain ⟨k,hk,rfl,rfl,hwr⟩:=hrel
  replace hwr:=hwr.symm
  subst hwr
  by_cases hk0:k=0
  ·subst hk0
   have b0:Hid (btF A B 1=if farB A=true then 3 else btF A B 0):=rfl
   generalize btF A B 0=bv at b0 ⊢
   by_cases f1:A < -999999999
   ·have d1:decide (A < -999999999)=true:=decide_eq_true f1
    have b1:Hid (btF A B 1=3):=by unfold Hid;rw[b0.out,if_pos (by unfold farB;rw[d1];rfl)]
    clear b0
    go_wp2_with (first|(rw[ix2a])|fail)
    go_roundw
    case rel=>exact ⟨1,by omega,by go_num,by rw[b1.out],trivial⟩
    case measure=>simp[intOf]
   ·have d1:decide (A < -999999999)=false:=decide_eq_false f1
    by_cases f2:999999999<A
    ·have d2:decide (999999999<A)=true:=decide_eq_true f2
     have b1:Hid (btF A B 1=3):=by unfold Hid;rw[b0.out,if_pos (by unfold farB;rw[d1,d2];rfl)]
     clear b0
     go_wp2_with (first|(rw[ix2a])|fail)
     go_roundw
     case rel=>exact ⟨1,by omega,by go_num,by rw[b1.out],trivial⟩
     case measure=>simp[intOf]
    ·have d2:decide (999999999<A)=false:=decide_eq_false f2
     have b1:Hid (btF A B 1=bv):=by unfold Hid;rw[b0.out,if_neg (by unfold farB;rw[d1,d2];decide)]
     clear b0
     go_wp2_with (first|(rw[ix2a])|fail)
     go_roundw
     case rel=>exact ⟨1,by omega,by go_num,by rw[b1.out],trivial⟩
     case measure=>simp[intOf]
  by_cases hk1:k=1
  ·subst hk1
   have b0:Hid (btF A B 2=if farB B=true then 3 else btF A B 1):=rfl
   generalize btF A B 1=bv at b0 ⊢
   by_cases f1:B < -999999999
   ·have d1:decide (B < -999999999)=true:=decide_eq_true f1
    have b1:Hid (btF A B 2=3):=by unfold Hid;rw[b0.out,if_pos (by unfold farB;rw[d1];rfl)]
    clear b0
    go_wp2_with (first|(rw[ix2b])|fail)
    go_roundw
    case rel=>exact ⟨2,by omega,by go_num,by rw[b1.out],trivial⟩
    case measure=>simp[intOf]
   ·have d1:decide (B < -999999999)=false:=decide_eq_false f1
    by_cases f2:999999999<B
    ·have d2:decide (999999999<B)=true:=decide_eq_true f2
     have b1:Hid (btF A B 2=3):=by unfold Hid;rw[b0.out,if_pos (by unfold farB;rw[d1,d2];rfl)]
     clear b0
     go_wp2_with (first|(rw[ix2b])|fail)
     go_roundw
     case rel=>exact ⟨2,by omega,by go_num,by rw[b1.out],trivial⟩
     case measure=>simp[intOf]
    ·have d2:decide (999999999<B)=false:=decide_eq_false f2
     have b1:Hid (btF A B 2=bv):=by unfold Hid;rw[b0.out,if_neg (by unfold farB;rw[d1,d2];decide)]
     clear b0
     go_wp2_with (first|(rw[ix2b])|fail)
     go_roundw
     case rel=>exact ⟨2,by omega,by go_num,by rw[b1.out],trivial⟩
     case measure=>simp[intOf]
  have hk2:k=2:=by omega
  subst hk2
  rw[hbt.out]
  by_cases hA:gA=1
  ·have d1:(gA != 1)=false:=by simpa using hA
   have d2:(gB != 1)=true:=by simpa using hsing.out.resolve_left (fun h=>h hA)
   clear hA hsing
   go_upto_region 22 with (first|(go_at_call 62;(with_reducible refine (H9.out _).mono ?_);rintro _ _ ⟨rfl,rfl⟩)|(go_at_call 61;(with_reducible refine (HC.out _ HB.out).mono ?_);rintro _ e1 ⟨rfl,hbe1⟩;have hke1:Below t2.heap.size t2 e1:=hbe1;obtain ⟨ye10,ye11,ye1l⟩:=c2_of (keepq hke1 Q1.out))|(go_at_call 62;(with_reducible refine (HA.out _).mono ?_);rintro _ _ ⟨rfl,rfl⟩)|(go_at_call 61;(with_reducible refine (HD.out _ (keep_trans HB.out hke1)).mono ?_);rintro _ e2 ⟨rfl,hbe2⟩;have hke2:Below t2.heap.size t2 e2:=keep_trans hke1 hbe2)|fail)
   clear y0 y1 yl ye10 ye11 ye1l
   have hmv:Below t2.heap.size t2 e2:=hke2
   replace Q0:=Lib.hid (keepq hmv Q0.out)
   replace Q1:=Lib.hid (keepq hmv Q1.out)
   replace Q7:=Lib.hid (keepq hmv Q7.out)
   replace Q9:=Lib.hid (keepq hmv Q9.out)
   replace Q11:=Lib.hid (keepq hmv Q11.out)
   replace Q12:=Lib.hid (keepq hmv Q12.out)
   replace IA:=Lib.hid (IA.out.mono hmv)
   replace IB:=Lib.hid (IB.out.mono hmv)
   replace IE:=Lib.hid (IE.out.mono hmv)
   replace ID:=Lib.hid (ID.out.mono hmv)
   replace GF:=Lib.hid (GF.out.below hmv)
   replace HB:=Lib.hid (keep_trans HB.out hmv)
   clear hmv hbe1 hke1 hbe2 hke2
   go_upto_region 23 with fail
   have gsz:(e2.alloc (.cells #[.int .i64 0,.int .i64 0,.slice none 0 0] 24)).heap.size=e2.heap.size+1:=by simp only[World.size_alloc]
   have gB:Below e2.heap.size e2 (e2.alloc (.cells #[.int .i64 0,.int .i64 0,.slice none 0 0] 24)):=(Below.refl _ _).alloc (Nat.le_refl _) _
   have gq0:(e2.alloc (.cells #[.int .i64 0,.int .i64 0,.slice none 0 0] 24)).heap[e2.heap.size]?=some (.cells #[.int .i64 0,.int .i64 0,.slice none 0 0] 24 (0,0)):=by have h:=World.alloc_heap_new e2 (.cells #[.int .i64 0,.int .i64 0,.slice none 0 0] 24);exact h
   generalize (e2.alloc (.cells #[.int .i64 0,.int .i64 0,.slice none 0 0] 24))=V9 at gsz gB gq0 ⊢
   have Q19:=Lib.hid gq0
   have GB:=Lib.hid gB
   clear gsz gq0 gB
   have hmv:Below e2.heap.size e2 V9:=GB.out
   replace Q0:=Lib.hid (keepq hmv Q0.out)
   replace Q1:=Lib.hid (keepq hmv Q1.out)
   replace Q7:=Lib.hid (keepq hmv Q7.out)
   replace Q9:=Lib.hid (keepq hmv Q9.out)
   replace Q11:=Lib.hid (keepq hmv Q11.out)
   replace Q12:=Lib.hid (keepq hmv Q12.out)
   replace IA:=Lib.hid (IA.out.mono hmv)
   replace IB:=Lib.hid (IB.out.mono hmv)
   replace IE:=Lib.hid (IE.out.mono hmv)
   replace ID:=Lib.hid (ID.out.mono hmv)
   replace GF:=Lib.hid (GF.out.below hmv)
   replace HB:=Lib.hid (keep_trans HB.out hmv)
   clear hmv
   have M2:=Lib.hid (fun W (hb:Below V9.heap.size V9 W)=>lmade_v R2 R2 a2 k2 c2 X2 er2 0 0 none 0 0 [] 18 W true m2.out (IB.out.mono hb) ⟨⟨rfl,by omega⟩,fun k hk=>absurd hk (by omega)⟩)
   obtain ⟨q0,q1,q2,ql⟩:=c3_of Q9.out
   obtain ⟨z0,z1,z2,zl⟩:=c3_of Q19.out
   go_upto_region 27 with (first|(go_at_call 24;(with_reducible refine (M2.out _ (Below.refl _ _)).mono ?_);rintro _ t5 ⟨rfl,hbt5⟩;have hkt5:Below V9.heap.size V9 t5:=hbt5)|fail)
   clear q0 q1 q2 ql z0 z1 z2 zl
   have hmv:Below V9.heap.size V9 t5:=hbt5
   replace Q0:=Lib.hid (keepq hmv Q0.out)
   replace Q1:=Lib.hid (keepq hmv Q1.out)
   replace Q7:=Lib.hid (keepq hmv Q7.out)
   replace Q9:=Lib.hid (keepq hmv Q9.out)
   replace Q11:=Lib.hid (keepq hmv Q11.out)
   replace Q12:=Lib.hid (keepq hmv Q12.out)
   replace Q19:=Lib.hid (keepq hmv Q19.out)
   replace IA:=Lib.hid (IA.out.mono hmv)
   replace IB:=Lib.hid (IB.out.mono hmv)
   replace IE:=Lib.hid (IE.out.mono hmv)
   replace ID:=Lib.hid (ID.out.mono hmv)
   replace GF:=Lib.hid (GF.out.below hmv)
   replace HB:=Lib.hid (keep_trans HB.out hmv)
   clear hmv hbt5 hkt5 M2
   go_upto_region 28 with (first|(go_at_call 63;(with_reducible refine (HF.out _ HB.out).mono ?_);rintro _ t6 ⟨rfl,hbt6⟩)|fail)
   have hmv:Below t5.heap.size t5 t6:=hbt6
   replace Q0:=Lib.hid (keepq hmv Q0.out)
   replace Q1:=Lib.hid (keepq hmv Q1.out)
   replace Q7:=Lib.hid (keepq hmv Q7.out)
   replace Q9:=Lib.hid (keepq hmv Q9.out)
   replace Q11:=Lib.hid (keepq hmv Q11.out)
   replace Q12:=Lib.hid (keepq hmv Q12.out)
   replace Q19:=Lib.hid (keepq hmv Q19.out)
   replace IA:=Lib.hid (IA.out.mono hmv)
   replace IB:=Lib.hid (IB.out.mono hmv)
   replace IE:=Lib.hid (IE.out.mono hmv)
   replace ID:=Lib.hid (ID.out.mono hmv)
   replace GF:=Lib.hid (GF.out.below hmv)
   replace HB:=Lib.hid (keep_trans HB.out hmv)
   clear hmv hbt6
   have M3:=Lib.hid (fun W (hb:Below t6.heap.size t6 W)=>lmade_v R3 R3 a3 k3 c3 X3 er3 0 0 none 0 0 [] 15 W true m3.out (IE.out.mono hb) ⟨⟨rfl,by omega⟩,fun k hk=>absurd hk (by omega)⟩)
   have SM:=Lib.hid (fun W (hb:Below t6.heap.size t6 W)=>rsame_c R3 R3 a4 k4 c4 X4 0 0 none 0 0 [] W (ID.out.mono hb) ⟨⟨rfl,by omega⟩,fun k hk=>absurd hk (by omega)⟩)
   rw[m4.out] at SM
   obtain ⟨s0,s1,s2,sl⟩:=c3_of Q11.out
   go_wp2_with (first|(go_at_call 24;(with_reducible refine (M3.out _ (Below.refl _ _)).mono ?_);rintro _ t7 ⟨rfl,hbt7⟩;have hkt7:Below t6.heap.size t6 t7:=hbt7;obtain ⟨tt70,tt71,tt72,tt7l⟩:=c3_of (keepq hkt7 Q12.out))|(go_at_call 43;(with_reducible refine (SM.out _ (hkt7)).mono ?_);rintro _ t8 ⟨rfl,hbt8⟩;have hkt8:Below t6.heap.size t6 t8:=keep_trans hkt7 hbt8)|(go_at_call 20;refine (awake4_c _).mono ?_;rintro _ wz ⟨rfl,hbz⟩)|fail)
   refine bodyPost_ret (v := .bool true) ?_ rfl ⟨rfl,keep_trans HB.out (keep_trans hkt8 hbz)⟩
   simp[results,Tryz.f11,go_sem]
  ·have d1:(gA != 1)=true:=by simpa using hA
   clear hA hsing
   go_upto_region 22 with (first|(go_at_call 62;(with_reducible refine (H9.out _).mono ?_);rintro _ _ ⟨rfl,rfl⟩)|(go_at_call 61;(with_reducible refine (HC.out _ HB.out).mono ?_);rintro _ e1 ⟨rfl,hbe1⟩;have hke1:Below t2.heap.size t2 e1:=hbe1)|fail)
   clear y0 y1 yl
   have hmv:Below t2.heap.size t2 e1:=hke1
   replace Q0:=Lib.hid (keepq hmv Q0.out)
   replace Q1:=Lib.hid (keepq hmv Q1.out)
   replace Q7:=Lib.hid (keepq hmv Q7.out)
   replace Q9:=Lib.hid (keepq hmv Q9.out)
   replace Q11:=Lib.hid (keepq hmv Q11.out)
   replace Q12:=Lib.hid (keepq hmv Q12.out)
   replace IA:=Lib.hid (IA.out.mono hmv)
   replace IB:=Lib.hid (IB.out.mono hmv)
   replace IE:=Lib.hid (IE.out.mono hmv)
   replace ID:=Lib.hid (ID.out.mono hmv)
   replace GF:=Lib.hid (GF.out.below hmv)
   replace HB:=Lib.hid (keep_trans HB.out hmv)
   clear hmv hbe1 hke1
   go_upto_region 23 with fail
   have gsz:(e1.alloc (.cells #[.int .i64 0,.int .i64 0,.slice none 0 0] 24)).heap.size=e1.heap.size+1:=by simp only[World.size_alloc]
   have gB:Below e1.heap.size e1 (e1.alloc (.cells #[.int .i64 0,.int .i64 0,.slice none 0 0] 24)):=(Below.refl _ _).alloc (Nat.le_refl _) _
   have gq0:(e1.alloc (.cells #[.int .i64 0,.int .i64 0,.slice none 0 0] 24)).heap[e1.heap.size]?=some (.cells #[.int .i64 0,.int .i64 0,.slice none 0 0] 24 (0,0)):=by have h:=World.alloc_heap_new e1 (.cells #[.int .i64 0,.int .i64 0,.slice none 0 0] 24);exact h
   generalize (e1.alloc (.cells #[.int .i64 0,.int .i64 0,.slice none 0 0] 24))=V9 at gsz gB gq0 ⊢
   have Q19:=Lib.hid gq0
   have GB:=Lib.hid gB
   clear gsz gq0 gB
   have hmv:Below e1.heap.size e1 V9:=GB.out
   replace Q0:=Lib.hid (keepq hmv Q0.out)
   replace Q1:=Lib.hid (keepq hmv Q1.out)
   replace Q7:=Lib.hid (keepq hmv Q7.out)
   replace Q9:=Lib.hid (keepq hmv Q9.out)
   replace Q11:=Lib.hid (keepq hmv Q11.out)
   replace Q12:=Lib.hid (keepq hmv Q12.out)
   replace IA:=Lib.hid (IA.out.mono hmv)
   replace IB:=Lib.hid (IB.out.mono hmv)
   replace IE:=Lib.hid (IE.out.mono hmv)
   replace ID:=Lib.hid (ID.out.mono hmv)
   replace GF:=Lib.hid (GF.out.below hmv)
   replace HB:=Lib.hid (keep_trans HB.out hmv)
   clear hmv
   have M2:=Lib.hid (fun W (hb:Below V9.heap.size V9 W)=>lmade_v R2 R2 a2 k2 c2 X2 er2 0 0 none 0 0 [] 18 W true m2.out (IB.out.mono hb) ⟨⟨rfl,by omega⟩,fun k hk=>absurd hk (by omega)⟩)
   obtain ⟨q0,q1,q2,ql⟩:=c3_of Q9.out
   obtain ⟨z0,z1,z2,zl⟩:=c3_of Q19.out
   go_upto_region 27 with (first|(go_at_call 24;(with_reducible refine (M2.out _ (Below.refl _ _)).mono ?_);rintro _ t5 ⟨rfl,hbt5⟩;have hkt5:Below V9.heap.size V9 t5:=hbt5)|fail)
   clear q0 q1 q2 ql z0 z1 z2 zl
   have hmv:Below V9.heap.size V9 t5:=hbt5
   replace Q0:=Lib.hid (keepq hmv Q0.out)
   replace Q1:=Lib.hid (keepq hmv Q1.out)
   replace Q7:=Lib.hid (keepq hmv Q7.out)
   replace Q9:=Lib.hid (keepq hmv Q9.out)
   replace Q11:=Lib.hid (keepq hmv Q11.out)
   replace Q12:=Lib.hid (keepq hmv Q12.out)
   replace Q19:=Lib.hid (keepq hmv Q19.out)
   replace IA:=Lib.hid (IA.out.mono hmv)
   replace IB:=Lib.hid (IB.out.mono hmv)
   replace IE:=Lib.hid (IE.out.mono hmv)
   replace ID:=Lib.hid (ID.out.mono hmv)
   replace GF:=Lib.hid (GF.out.below hmv)
   replace HB:=Lib.hid (keep_trans HB.out hmv)
   clear hmv hbt5 hkt5 M2
   go_upto_region 28 with (first|(go_at_call 63;(with_reducible refine (HF.out _ HB.out).mono ?_);rintro _ t6 ⟨rfl,hbt6⟩)|fail)
   have hmv:Below t5.heap.size t5 t6:=hbt6
   replace Q0:=Lib.hid (keepq hmv Q0.out)
   replace Q1:=Lib.hid (keepq hmv Q1.out)
   replace Q7:=Lib.hid (keepq hmv Q7.out)
   replace Q9:=Lib.hid (keepq hmv Q9.out)
   replace Q11:=Lib.hid (keepq hmv Q11.out)
   replace Q12:=Lib.hid (keepq hmv Q12.out)
   replace Q19:=Lib.hid (keepq hmv Q19.out)
   replace IA:=Lib.hid (IA.out.mono hmv)
   replace IB:=Lib.hid (IB.out.mono hmv)
   replace IE:=Lib.hid (IE.out.mono hmv)
   replace ID:=Lib.hid (ID.out.mono hmv)
   replace GF:=Lib.hid (GF.out.below hmv)
   replace HB:=Lib.hid (keep_trans HB.out hmv)
   clear hmv hbt6
   have M3:=Lib.hid (fun W (hb:Below t6.heap.size t6 W)=>lmade_v R3 R3 a3 k3 c3 X3 er3 0 0 none 0 0 [] 15 W true m3.out (IE.out.mono hb) ⟨⟨rfl,by omega⟩,fun k hk=>absurd hk (by omega)⟩)
   have SM:=Lib.hid (fun W (hb:Below t6.heap.size t6 W)=>rsame_c R3 R3 a4 k4 c4 X4 0 0 none 0 0 [] W (ID.out.mono hb) ⟨⟨rfl,by omega⟩,fun k hk=>absurd hk (by omega)⟩)
   rw[m4.out] at SM
   obtain ⟨s0,s1,s2,sl⟩:=c3_of Q11.out
   go_wp2_with (first|(go_at_call 24;(with_reducible refine (M3.out _ (Below.refl _ _)).mono ?_);rintro _ t7 ⟨rfl,hbt7⟩;have hkt7:Below t6.heap.size t6 t7:=hbt7;obtain ⟨tt70,tt71,tt72,tt7l⟩:=c3_of (keepq hkt7 Q12.out))|(go_at_call 43;(with_reducible refine (SM.out _ (hkt7)).mono ?_);rintro _ t8 ⟨rfl,hbt8⟩;have hkt8:Below t6.heap.size t6 t8:=keep_trans hkt7 hbt8)|(go_at_call 20;refine (awake4_c _).mono ?_;rintro _ wz ⟨rfl,hbz⟩)|fail)
   refine bodyPost_ret (v := .bool true) ?_ rfl ⟨rfl,keep_trans HB.out (keep_trans hkt8 hbz)⟩
   simp[results,Tryz.f11,go_sem]
theorem ltab_OF (r C:Int) (a:Option Addr) (n c:Nat) (m A B:Int) (w:World) (h0:¬300<n) (ea:Int) (R1:Int) (k1:Nat) (X1:List Int) (er1:Int) (R2:Int) (k2:Nat) (X2:List Int) (er2:Int) (R3:Int) (k3 k4:Nat) (X3 X4:List Int) (er3:Int) (k5 NN:Nat) (css:List (List Int)) (hk5:k5≤1000) (er5:Int) (z1:Nat) (Y1:List Int) (m1:madeB R1 R1 X1 er1 m m Y1 0=true) (hbt:btF A B 2=0) (pA pB:Int) (gA gB:Int) (hgA:gA=1) (hgB:gB=1) (l2:Nat) (Y2:List Int) (m2:madeB R2 R2 X2 er2 m m Y2 0=true) (he5:er5=0) (m3:madeB R3 R3 X3 er3 R3 R3 X3 0=true) (m4:sameG R3 R3 X4 R3 R3 X4=true)
  (H1:tG w 54 #[.int .i64 m] R1 k1 X1 er1) (H2:tG w 55 #[.int .i64 m,.int .i64 A,.int .i64 B] R2 k2 X2 er2) (H3:tF w m R3 k3 k4 X3 X4 er3) (H4:tL w m k5 NN css er5) (H5:tH w 58 #[.agg #[.int .i64 r,.int .i64 C,.slice a n c]] (.int .i64 ea)) (H6:tH w 22 #[.agg #[.int .i64 r,.int .i64 C,.slice a n c]] (.int .i64 ea)) (H7:∀W,Calls Tryz.prog 59 #[.int .i64 m] W fun e w'=>e = .returned (.int .i64 0)∧Below W.heap.size W w') (H8:tR w #[.int .i64 m,.int .i64 1,.int .i64 1] m z1 Y1) (H9:∀W,Calls Tryz.prog 62 #[.int .i64 A,.int .i64 m] W fun e w'=>e = .returned (.int .i64 pA)∧W=w') (HA:∀W,Calls Tryz.prog 62 #[.int .i64 B,.int .i64 m] W fun e w'=>e = .returned (.int .i64 pB)∧W=w') (HC:tH w 61 #[.int .i64 pA,.int .i64 m] (.int .i64 gA)) (HD:tH w 61 #[.int .i64 pB,.int .i64 m] (.int .i64 gB)) (HE:tR w #[.int .i64 m,.int .i64 A,.int .i64 B] m l2 Y2) (HF:tH w 63 #[.int .i64 m] (.bool true)) (HG:tS w m R3 k3 k4 X3 X4) (HI:tM w m k5 NN css):Calls Tryz.prog 11 #[.agg #[.int .i64 r,.int .i64 C,.slice a n c],.int .i64 m,.agg #[.int .i64 A,.int .i64 B]] w fun e w'=>e = .returned (.bool true)∧Below w.heap.size w w':=by
 subst he5
 have hg0:decide ((300:Int)<(n:Int))=false:=decide_eq_false (by omega)
 have e1:(ea != ea)=false:=by simp
 subst hgA hgB
 have H1:=Lib.hid H1
 have H2:=Lib.hid H2
 have H3:=Lib.hid H3
 have H4:=Lib.hid H4
 have H5:=Lib.hid H5
 have H6:=Lib.hid H6
 have hk5:=Lib.hid hk5
 have H7:=Lib.hid H7
 have m1:=Lib.hid m1
 have H8:=Lib.hid H8
 have m2:=Lib.hid m2
 have hbt:=Lib.hid hbt
 have H9:=Lib.hid H9
 have HA:=Lib.hid HA
 have HC:=Lib.hid HC
 have HD:=Lib.hid HD
 have HE:=Lib.hid HE
 have HF:=Lib.hid HF
 have HG:=Lib.hid HG
 have HI:=Lib.hid HI
 have m3:=Lib.hid m3
 have m4:=Lib.hid m4
 go_enter Tryz.func11,Tryz.ntmps11
 go_upto_region 1 with fail
 have fsz:((w.alloc (.cells #[.int .i64 r,.int .i64 C,.slice a n c] 24)).alloc (.cells #[.int .i64 A,.int .i64 B] 62)).heap.size=w.heap.size+2:=by simp only[World.size_alloc] <;> omega
 have fB:Below w.heap.size w ((w.alloc (.cells #[.int .i64 r,.int .i64 C,.slice a n c] 24)).alloc (.cells #[.int .i64 A,.int .i64 B] 62)):=((Below.refl _ _).alloc (Nat.le_refl _) _).alloc (by simp only[World.size_alloc];omega) _
 have fq0:((w.alloc (.cells #[.int .i64 r,.int .i64 C,.slice a n c] 24)).alloc (.cells #[.int .i64 A,.int .i64 B] 62)).heap[w.heap.size]?=some (.cells #[.int .i64 r,.int .i64 C,.slice a n c] 24 (0,0)):=by have h:=World.alloc_heap_new w (.cells #[.int .i64 r,.int .i64 C,.slice a n c] 24);exact (Below.heap_alloc _ _ _ (by simp only[World.size_alloc];omega)).trans (h)
 have fq1:((w.alloc (.cells #[.int .i64 r,.int .i64 C,.slice a n c] 24)).alloc (.cells #[.int .i64 A,.int .i64 B] 62)).heap[w.heap.size+1]?=some (.cells #[.int .i64 A,.int .i64 B] 62 (0,0)):=by have h:=World.alloc_heap_new (w.alloc (.cells #[.int .i64 r,.int .i64 C,.slice a n c] 24)) (.cells #[.int .i64 A,.int .i64 B] 62);simp only[World.size_alloc] at h;exact h
 generalize ((w.alloc (.cells #[.int .i64 r,.int .i64 C,.slice a n c] 24)).alloc (.cells #[.int .i64 A,.int .i64 B] 62))=W0 at fsz fB fq0 fq1 ⊢
 have Q0:=Lib.hid fq0
 have Q1:=Lib.hid fq1
 have HB:=Lib.hid fB
 clear fq0 fq1 fsz fB
 obtain ⟨x0,x1,x2,xl⟩:=c3_of Q0.out
 go_upto_region 3 with (first|(go_at_call 19;(with_reducible refine (lgreat_c r C a n c 300 _).mono ?_);rintro _ g1 ⟨rfl,hbg1⟩)|fail)
 clear x0 x1 x2 xl
 have hmv:Below W0.heap.size W0 g1:=hbg1
 replace Q0:=Lib.hid (keepq hmv Q0.out)
 replace Q1:=Lib.hid (keepq hmv Q1.out)
 replace HB:=Lib.hid (keep_trans HB.out hmv)
 clear hmv hbg1
 go_upto_region 4 with (first|(go_at_call 54;(with_reducible refine (H1.out _ HB.out).mono ?_);rintro _ u1 ⟨a1,c1,rfl,ia,hbu1⟩)|fail)
 have gsz:(u1.alloc (.cells #[.int .i64 R1,.int .i64 R1,.slice a1 k1 c1] 24)).heap.size=u1.heap.size+1:=by simp only[World.size_alloc]
 have gB:Below u1.heap.size u1 (u1.alloc (.cells #[.int .i64 R1,.int .i64 R1,.slice a1 k1 c1] 24)):=(Below.refl _ _).alloc (Nat.le_refl _) _
 have gq0:(u1.alloc (.cells #[.int .i64 R1,.int .i64 R1,.slice a1 k1 c1] 24)).heap[u1.heap.size]?=some (.cells #[.int .i64 R1,.int .i64 R1,.slice a1 k1 c1] 24 (0,0)):=by have h:=World.alloc_heap_new u1 (.cells #[.int .i64 R1,.int .i64 R1,.slice a1 k1 c1] 24);exact h
 generalize (u1.alloc (.cells #[.int .i64 R1,.int .i64 R1,.slice a1 k1 c1] 24))=V1 at gsz gB gq0 ⊢
 have hmv:Below g1.heap.size g1 V1:=keep_trans hbu1 gB
 replace Q0:=Lib.hid (keepq hmv Q0.out)
 replace Q1:=Lib.hid (keepq hmv Q1.out)
 replace HB:=Lib.hid (keep_trans HB.out hmv)
 clear hmv
 have Q7:=Lib.hid gq0
 have IA:=Lib.hid (ia.mono gB)
 clear hbu1 gsz gq0 gB ia
 obtain ⟨y0,y1,yl⟩:=c2_of Q1.out
 go_upto_region 5 with (first|(go_at_call 55;(with_reducible refine (H2.out _ HB.out).mono ?_);rintro _ u2 ⟨a2,c2,rfl,ib,hbu2⟩)|fail)
 have hsz:(u2.alloc (.cells #[.int .i64 R2,.int .i64 R2,.slice a2 k2 c2] 24)).heap.size=u2.heap.size+1:=by simp only[World.size_alloc]
 have hB:Below u2.heap.size u2 (u2.alloc (.cells #[.int .i64 R2,.int .i64 R2,.slice a2 k2 c2] 24)):=(Below.refl _ _).alloc (Nat.le_refl _) _
 have hq0:(u2.alloc (.cells #[.int .i64 R2,.int .i64 R2,.slice a2 k2 c2] 24)).heap[u2.heap.size]?=some (.cells #[.int .i64 R2,.int .i64 R2,.slice a2 k2 c2] 24 (0,0)):=by have h:=World.alloc_heap_new u2 (.cells #[.int .i64 R2,.int .i64 R2,.slice a2 k2 c2] 24);exact h
 generalize (u2.alloc (.cells #[.int .i64 R2,.int .i64 R2,.slice a2 k2 c2] 24))=V2 at hsz hB hq0 ⊢
 clear y0 y1 yl
 have hmv:Below V1.heap.size V1 V2:=keep_trans hbu2 hB
 replace Q0:=Lib.hid (keepq hmv Q0.out)
 replace Q1:=Lib.hid (keepq hmv Q1.out)
 replace Q7:=Lib.hid (keepq hmv Q7.out)
 replace IA:=Lib.hid (IA.out.mono hmv)
 replace HB:=Lib.hid (keep_trans HB.out hmv)
 clear hmv
 have Q9:=Lib.hid hq0
 have IB:=Lib.hid (ib.mono hB)
 clear hbu2 hsz hq0 hB ib
 go_upto_region 6 with (first|(go_at_call 56;(with_reducible refine (H3.out _ HB.out).mono ?_);rintro _ u3 ⟨a3,c3,a4,c4,rfl,ic3,id4,hbu3⟩)|fail)
 have gsz:((u3.alloc (.cells #[.int .i64 R3,.int .i64 R3,.slice a3 k3 c3] 24)).alloc (.cells #[.int .i64 R3,.int .i64 R3,.slice a4 k4 c4] 24)).heap.size=u3.heap.size+2:=by simp only[World.size_alloc] <;> omega
 have gB:Below u3.heap.size u3 ((u3.alloc (.cells #[.int .i64 R3,.int .i64 R3,.slice a3 k3 c3] 24)).alloc (.cells #[.int .i64 R3,.int .i64 R3,.slice a4 k4 c4] 24)):=((Below.refl _ _).alloc (Nat.le_refl _) _).alloc (by simp only[World.size_alloc];omega) _
 have gq0:((u3.alloc (.cells #[.int .i64 R3,.int .i64 R3,.slice a3 k3 c3] 24)).alloc (.cells #[.int .i64 R3,.int .i64 R3,.slice a4 k4 c4] 24)).heap[u3.heap.size]?=some (.cells #[.int .i64 R3,.int .i64 R3,.slice a3 k3 c3] 24 (0,0)):=by have h:=World.alloc_heap_new u3 (.cells #[.int .i64 R3,.int .i64 R3,.slice a3 k3 c3] 24);exact (Below.heap_alloc _ _ _ (by simp only[World.size_alloc];omega)).trans (h)
 have gq1:((u3.alloc (.cells #[.int .i64 R3,.int .i64 R3,.slice a3 k3 c3] 24)).alloc (.cells #[.int .i64 R3,.int .i64 R3,.slice a4 k4 c4] 24)).heap[u3.heap.size+1]?=some (.cells #[.int .i64 R3,.int .i64 R3,.slice a4 k4 c4] 24 (0,0)):=by have h:=World.alloc_heap_new (u3.alloc (.cells #[.int .i64 R3,.int .i64 R3,.slice a3 k3 c3] 24)) (.cells #[.int .i64 R3,.int .i64 R3,.slice a4 k4 c4] 24);simp only[World.size_alloc] at h;exact h
 generalize ((u3.alloc (.cells #[.int .i64 R3,.int .i64 R3,.slice a3 k3 c3] 24)).alloc (.cells #[.int .i64 R3,.int .i64 R3,.slice a4 k4 c4] 24))=V3 at gsz gB gq0 gq1 ⊢
 have hmv:Below V2.heap.size V2 V3:=keep_trans hbu3 gB
 replace Q0:=Lib.hid (keepq hmv Q0.out)
 replace Q1:=Lib.hid (keepq hmv Q1.out)
 replace Q7:=Lib.hid (keepq hmv Q7.out)
 replace Q9:=Lib.hid (keepq hmv Q9.out)
 replace IA:=Lib.hid (IA.out.mono hmv)
 replace IB:=Lib.hid (IB.out.mono hmv)
 replace HB:=Lib.hid (keep_trans HB.out hmv)
 clear hmv
 have Q11:=Lib.hid gq0
 have Q12:=Lib.hid gq1
 have IE:=Lib.hid (ic3.mono gB)
 have ID:=Lib.hid (id4.mono gB)
 clear hbu3 gsz gq0 gq1 gB ic3 id4
 go_upto_region 7 with (first|(go_at_call 57;(with_reducible refine (H4.out _ HB.out).mono ?_);rintro _ u4 ⟨a5,c5,rfl,gl5,hbu4⟩)|fail)
 have hmv:Below V3.heap.size V3 u4:=hbu4
 replace Q0:=Lib.hid (keepq hmv Q0.out)
 replace Q1:=Lib.hid (keepq hmv Q1.out)
 replace Q7:=Lib.hid (keepq hmv Q7.out)
 replace Q9:=Lib.hid (keepq hmv Q9.out)
 replace Q11:=Lib.hid (keepq hmv Q11.out)
 replace Q12:=Lib.hid (keepq hmv Q12.out)
 replace IA:=Lib.hid (IA.out.mono hmv)
 replace IB:=Lib.hid (IB.out.mono hmv)
 replace IE:=Lib.hid (IE.out.mono hmv)
 replace ID:=Lib.hid (ID.out.mono hmv)
 replace HB:=Lib.hid (keep_trans HB.out hmv)
 clear hmv
 have GF:=Lib.hid gl5
 clear hbu4 gl5
 obtain ⟨x0,x1,x2,xl⟩:=c3_of Q0.out
 refine wp_region_S (fun w'=>∃u,w'=over (u4) u) [] [(0,0),(0,2),(1,1),(1,3),(0,4)] (by kernel_rfl) (by kernel_rfl) (by exact ⟨_,below_over (by repeat (first|assumption|exact Below.refl _ _|refine keep_drew ?_|refine keep_alloc ?_ _|refine keep_trans ?_ (by assumption)))⟩) ?_
 dsimp only[pickOps,nthOp]
 repeat (first|(refine wpS_skip rfl (fun K hK=>?_);go_big_quiet_op;refine hK _ ?_;clear hK K)|(refine wpS_quiet rfl rfl (fun K hK=>?_);go_big_quiet_op;refine hK _ ?_;clear hK K)|(refine wpS_loud ?_;go_wp2_with (first|(go_at_call 58;(with_reducible refine (H5.out _ (keep_trans HB.out (by (repeat (first|assumption|exact Below.refl _ _|refine keep_drew ?_|refine keep_alloc ?_ _|refine keep_trans ?_ (by assumption)))))).mono ?_);rintro _ u5 ⟨rfl,hbu5⟩)|(go_at_call 22;(with_reducible refine (H6.out _ (keep_trans HB.out (by (repeat (first|assumption|exact Below.refl _ _|refine keep_drew ?_|refine keep_alloc ?_ _|refine keep_trans ?_ (by assumption)))))).mono ?_);rintro _ u6 ⟨rfl,hbu6⟩)|fail);refine ⟨?_,?_⟩;focus (exact ⟨_,below_over (by repeat (first|assumption|exact Below.refl _ _|refine keep_drew ?_|refine keep_alloc ?_ _|refine keep_trans ?_ (by assumption)))⟩)))
 refine wpS_end ?_
 clear x0 x1 x2 xl
 have hmv:Below u4.heap.size u4 u6:=(by (repeat (first|assumption|exact Below.refl _ _|refine keep_drew ?_|refine keep_alloc ?_ _|refine keep_trans ?_ (by assumption))))
 replace Q0:=Lib.hid (keepq hmv Q0.out)
 replace Q1:=Lib.hid (keepq hmv Q1.out)
 replace Q7:=Lib.hid (keepq hmv Q7.out)
 replace Q9:=Lib.hid (keepq hmv Q9.out)
 replace Q11:=Lib.hid (keepq hmv Q11.out)
 replace Q12:=Lib.hid (keepq hmv Q12.out)
 replace IA:=Lib.hid (IA.out.mono hmv)
 replace IB:=Lib.hid (IB.out.mono hmv)
 replace IE:=Lib.hid (IE.out.mono hmv)
 replace ID:=Lib.hid (ID.out.mono hmv)
 replace GF:=Lib.hid (GF.out.below hmv)
 replace HB:=Lib.hid (keep_trans HB.out hmv)
 clear hmv hbu5 hbu6
 go_upto_region 10 with (first|(go_at_call 59;(with_reducible refine (H7.out _).mono ?_);rintro _ u7 ⟨rfl,hbu7⟩)|fail)
 have hmv:Below u6.heap.size u6 u7:=hbu7
 replace Q0:=Lib.hid (keepq hmv Q0.out)
 replace Q1:=Lib.hid (keepq hmv Q1.out)
 replace Q7:=Lib.hid (keepq hmv Q7.out)
 replace Q9:=Lib.hid (keepq hmv Q9.out)
 replace Q11:=Lib.hid (keepq hmv Q11.out)
 replace Q12:=Lib.hid (keepq hmv Q12.out)
 replace IA:=Lib.hid (IA.out.mono hmv)
 replace IB:=Lib.hid (IB.out.mono hmv)
 replace IE:=Lib.hid (IE.out.mono hmv)
 replace ID:=Lib.hid (ID.out.mono hmv)
 replace GF:=Lib.hid (GF.out.below hmv)
 replace HB:=Lib.hid (keep_trans HB.out hmv)
 clear hmv hbu7
 obtain ⟨p0,p1,p2,pl⟩:=c3_of Q7.out
 go_upto_region 12 with fail
 have RL:=Lib.hid (fun W (hb:Below u7.heap.size u7 W)=>H8.out W (keep_trans HB.out hb))
 have MA:=Lib.hid (fun W (hb:Below u7.heap.size u7 W) a7 c7 (i7:IC W a7 z1 Y1)=>lmade_v R1 R1 a1 k1 c1 X1 er1 m m a7 z1 c7 Y1 0 W true m1.out (IA.out.mono hb) i7)
 refine wp_region_S (fun w'=>∃u,w'=over (u7) u) [] [(0,0),(0,1),(0,2),(1,3),(1,4),(0,5)] (by kernel_rfl) (by kernel_rfl) (by exact ⟨_,below_over (by repeat (first|assumption|exact Below.refl _ _|refine keep_drew ?_|refine keep_alloc ?_ _|refine keep_trans ?_ (by assumption)))⟩) ?_
 dsimp only[pickOps,nthOp]
 repeat (first|(refine wpS_skip rfl (fun K hK=>?_);go_big_quiet_op;refine hK _ ?_;clear hK K)|(refine wpS_quiet rfl rfl (fun K hK=>?_);go_big_quiet_op;refine hK _ ?_;clear hK K)|(refine wpS_loud ?_;go_wp2_with (first|(go_at_call 60;(with_reducible refine (RL.out _ (by (repeat (first|assumption|exact Below.refl _ _|refine keep_drew ?_|refine keep_alloc ?_ _|refine keep_trans ?_ (by assumption))))).mono ?_);rintro _ t1 ⟨a7,c7,rfl,hf7,i7,hbt1⟩)|(go_at_call 24;(with_reducible refine (MA.out _ (by (repeat (first|assumption|exact Below.refl _ _|refine keep_drew ?_|refine keep_alloc ?_ _|refine keep_trans ?_ (by assumption)))) _ _ i7).mono ?_);rintro _ t2 ⟨rfl,hbt2⟩)|fail);refine ⟨?_,?_⟩;focus (exact ⟨_,below_over (by repeat (first|assumption|exact Below.refl _ _|refine keep_drew ?_|refine keep_alloc ?_ _|refine keep_trans ?_ (by assumption)))⟩)))
 refine wpS_end ?_
 clear p0 p1 p2 pl
 have hmv:Below u7.heap.size u7 t2:=(by (repeat (first|assumption|exact Below.refl _ _|refine keep_drew ?_|refine keep_alloc ?_ _|refine keep_trans ?_ (by assumption))))
 replace Q0:=Lib.hid (keepq hmv Q0.out)
 replace Q1:=Lib.hid (keepq hmv Q1.out)
 replace Q7:=Lib.hid (keepq hmv Q7.out)
 replace Q9:=Lib.hid (keepq hmv Q9.out)
 replace Q11:=Lib.hid (keepq hmv Q11.out)
 replace Q12:=Lib.hid (keepq hmv Q12.out)
 replace IA:=Lib.hid (IA.out.mono hmv)
 replace IB:=Lib.hid (IB.out.mono hmv)
 replace IE:=Lib.hid (IE.out.mono hmv)
 replace ID:=Lib.hid (ID.out.mono hmv)
 replace GF:=Lib.hid (GF.out.below hmv)
 replace HB:=Lib.hid (keep_trans HB.out hmv)
 clear hmv hbt1 hbt2 i7 hf7 RL MA
 obtain ⟨y0,y1,yl⟩:=c2_of Q1.out
 go_upto_region 15 with fail
 go_loopw [16,18,103] (fun s16 _ s103 wr=>∃k:Nat,k≤2∧s103 = .int .i64 (k:Int)∧s16 = .int .i64 (btF A B k)∧wr=t2) (fun _ _ s103 _=>2 - (intOf s103).toNat)
 case atStart=>exact ⟨0,by omega,rfl,rfl,rfl⟩
 case round =>
  obtain ⟨k,hk,rfl,rfl,hwr⟩:=hrel
  replace hwr:=hwr.symm
  subst hwr
  by_cases hk0:k=0
  ·subst hk0
   have b0:Hid (btF A B 1=if farB A=true then 3 else btF A B 0):=rfl
   generalize btF A B 0=bv at b0 ⊢
   by_cases f1:A < -999999999
   ·have d1:decide (A < -999999999)=true:=decide_eq_true f1
    have b1:Hid (btF A B 1=3):=by unfold Hid;rw[b0.out,if_pos (by unfold farB;rw[d1];rfl)]
    clear b0
    go_wp2_with (first|(rw[ix2a])|fail)
    go_roundw
    case rel=>exact ⟨1,by omega,by go_num,by rw[b1.out],trivial⟩
    case measure=>simp[intOf]
   ·have d1:decide (A < -999999999)=false:=decide_eq_false f1
    by_cases f2:999999999<A
    ·have d2:decide (999999999<A)=true:=decide_eq_true f2
     have b1:Hid (btF A B 1=3):=by unfold Hid;rw[b0.out,if_pos (by unfold farB;rw[d1,d2];rfl)]
     clear b0
     go_wp2_with (first|(rw[ix2a])|fail)
     go_roundw
     case rel=>exact ⟨1,by omega,by go_num,by rw[b1.out],trivial⟩
     case measure=>simp[intOf]
    ·have d2:decide (999999999<A)=false:=decide_eq_false f2
     have b1:Hid (btF A B 1=bv):=by unfold Hid;rw[b0.out,if_neg (by unfold farB;rw[d1,d2];decide)]
     clear b0
     go_wp2_with (first|(rw[ix2a])|fail)
     go_roundw
     case rel=>exact ⟨1,by omega,by go_num,by rw[b1.out],trivial⟩
     case measure=>simp[intOf]
  by_cases hk1:k=1
  ·subst hk1
   have b0:Hid (btF A B 2=if farB B=true then 3 else btF A B 1):=rfl
   generalize btF A B 1=bv at b0 ⊢
   by_cases f1:B < -999999999
   ·have d1:decide (B < -999999999)=true:=decide_eq_true f1
    have b1:Hid (btF A B 2=3):=by unfold Hid;rw[b0.out,if_pos (by unfold farB;rw[d1];rfl)]
    clear b0
    go_wp2_with (first|(rw[ix2b])|fail)
    go_roundw
    case rel=>exact ⟨2,by omega,by go_num,by rw[b1.out],trivial⟩
    case measure=>simp[intOf]
   ·have d1:decide (B < -999999999)=false:=decide_eq_false f1
    by_cases f2:999999999<B
    ·have d2:decide (999999999<B)=true:=decide_eq_true f2
     have b1:Hid (btF A B 2=3):=by unfold Hid;rw[b0.out,if_pos (by unfold farB;rw[d1,d2];rfl)]
     clear b0
     go_wp2_with (first|(rw[ix2b])|fail)
     go_roundw
     case rel=>exact ⟨2,by omega,by go_num,by rw[b1.out],trivial⟩
     case measure=>simp[intOf]
    ·have d2:decide (999999999<B)=false:=decide_eq_false f2
     have b1:Hid (btF A B 2=bv):=by unfold Hid;rw[b0.out,if_neg (by unfold farB;rw[d1,d2];decide)]
     clear b0
     go_wp2_with (first|(rw[ix2b])|fail)
     go_roundw
     case rel=>exact ⟨2,by omega,by go_num,by rw[b1.out],trivial⟩
     case measure=>simp[intOf]
  have hk2:k=2:=by omega
  subst hk2
  rw[hbt.out]
  go_upto_region 22 with (first|(go_at_call 62;(with_reducible refine (H9.out _).mono ?_);rintro _ _ ⟨rfl,rfl⟩)|(go_at_call 61;(with_reducible refine (HC.out _ HB.out).mono ?_);rintro _ e1 ⟨rfl,hbe1⟩;have hke1:Below t2.heap.size t2 e1:=hbe1;obtain ⟨ye10,ye11,ye1l⟩:=c2_of (keepq hke1 Q1.out))|(go_at_call 62;(with_reducible refine (HA.out _).mono ?_);rintro _ _ ⟨rfl,rfl⟩)|(go_at_call 61;(with_reducible refine (HD.out _ (keep_trans HB.out hke1)).mono ?_);rintro _ e2 ⟨rfl,hbe2⟩;have hke2:Below t2.heap.size t2 e2:=keep_trans hke1 hbe2)|fail)
  clear y0 y1 yl ye10 ye11 ye1l
  have hmv:Below t2.heap.size t2 e2:=hke2
  replace Q0:=Lib.hid (keepq hmv Q0.out)
  replace Q1:=Lib.hid (keepq hmv Q1.out)
  replace Q7:=Lib.hid (keepq hmv Q7.out)
  replace Q9:=Lib.hid (keepq hmv Q9.out)
  replace Q11:=Lib.hid (keepq hmv Q11.out)
  replace Q12:=Lib.hid (keepq hmv Q12.out)
  replace IA:=Lib.hid (IA.out.mono hmv)
  replace IB:=Lib.hid (IB.out.mono hmv)
  replace IE:=Lib.hid (IE.out.mono hmv)
  replace ID:=Lib.hid (ID.out.mono hmv)
  replace GF:=Lib.hid (GF.out.below hmv)
  replace HB:=Lib.hid (keep_trans HB.out hmv)
  clear hmv hbe1 hke1 hbe2 hke2
  go_upto_region 23 with fail
  have gsz:(e2.alloc (.cells #[.int .i64 0,.int .i64 0,.slice none 0 0] 24)).heap.size=e2.heap.size+1:=by simp only[World.size_alloc]
  have gB:Below e2.heap.size e2 (e2.alloc (.cells #[.int .i64 0,.int .i64 0,.slice none 0 0] 24)):=(Below.refl _ _).alloc (Nat.le_refl _) _
  have gq0:(e2.alloc (.cells #[.int .i64 0,.int .i64 0,.slice none 0 0] 24)).heap[e2.heap.size]?=some (.cells #[.int .i64 0,.int .i64 0,.slice none 0 0] 24 (0,0)):=by have h:=World.alloc_heap_new e2 (.cells #[.int .i64 0,.int .i64 0,.slice none 0 0] 24);exact h
  generalize (e2.alloc (.cells #[.int .i64 0,.int .i64 0,.slice none 0 0] 24))=V9 at gsz gB gq0 ⊢
  have Q19:=Lib.hid gq0
  have GB:=Lib.hid gB
  clear gsz gq0 gB
  obtain ⟨y0,y1,yl⟩:=c2_of (keepq GB.out Q1.out)
  go_upto_region 25 with (first|(go_at_call 60;refine (HE.out _ (keep_trans HB.out GB.out)).mono ?_;rintro _ w7 ⟨a7,c7,rfl,hf7,i7,hbw7⟩;obtain ⟨z0,z1,z2,zl⟩:=c3_of (keepq hbw7 Q19.out);obtain ⟨zf0,zf1,zf2⟩:=f3_of (keepq hbw7 Q19.out))|fail)
  have g3:=st3_q (x0 := .int .i64 m) (x1 := .int .i64 m) (x2 := .slice a7 l2 c7) (keepq hbw7 Q19.out)
  have hb3:=st3_below (x0 := .int .i64 m) (x1 := .int .i64 m) (x2 := .slice a7 l2 c7) (b:=e2.heap.size) (keep_trans GB.out hbw7) (Nat.le_refl _)
  have hsz9:=GB.out.size
  have hlt9:=q_lt Q19.out
  have i8:=i7.st3 (x0 := .int .i64 m) (x1 := .int .i64 m) (x2 := .slice a7 l2 c7) (b:=e2.heap.size) (fun b o e=>by have:=hf7 b o e;omega)
  generalize (((w7.setCell ⟨e2.heap.size,0,none⟩ (.int .i64 m)).setCell ⟨e2.heap.size,1,none⟩ (.int .i64 m)).setCell ⟨e2.heap.size,2,none⟩ (.slice a7 l2 c7))=W9 at g3 hb3 i8 ⊢
  clear y0 y1 yl z0 z1 z2 zl zf0 zf1 zf2 hf7 i7 hbw7 hsz9 hlt9 Q19 GB
  have hmv:Below e2.heap.size e2 W9:=hb3
  replace Q0:=Lib.hid (keepq hmv Q0.out)
  replace Q1:=Lib.hid (keepq hmv Q1.out)
  replace Q7:=Lib.hid (keepq hmv Q7.out)
  replace Q9:=Lib.hid (keepq hmv Q9.out)
  replace Q11:=Lib.hid (keepq hmv Q11.out)
  replace Q12:=Lib.hid (keepq hmv Q12.out)
  replace IA:=Lib.hid (IA.out.mono hmv)
  replace IB:=Lib.hid (IB.out.mono hmv)
  replace IE:=Lib.hid (IE.out.mono hmv)
  replace ID:=Lib.hid (ID.out.mono hmv)
  replace GF:=Lib.hid (GF.out.below hmv)
  replace HB:=Lib.hid (keep_trans HB.out hmv)
  clear hmv hb3
  have Q19:=Lib.hid g3
  have IW:=Lib.hid i8
  clear g3 i8
  have M2:=Lib.hid (fun W (hb:Below W9.heap.size W9 W)=>lmade_v R2 R2 a2 k2 c2 X2 er2 m m a7 l2 c7 Y2 0 W true m2.out (IB.out.mono hb) (IW.out.mono hb))
  obtain ⟨q0,q1,q2,ql⟩:=c3_of Q9.out
  obtain ⟨z0,z1,z2,zl⟩:=c3_of Q19.out
  go_upto_region 27 with (first|(go_at_call 24;(with_reducible refine (M2.out _ (Below.refl _ _)).mono ?_);rintro _ t5 ⟨rfl,hbt5⟩;have hkt5:Below W9.heap.size W9 t5:=hbt5)|fail)
  clear q0 q1 q2 ql z0 z1 z2 zl
  have hmv:Below W9.heap.size W9 t5:=hbt5
  replace Q0:=Lib.hid (keepq hmv Q0.out)
  replace Q1:=Lib.hid (keepq hmv Q1.out)
  replace Q7:=Lib.hid (keepq hmv Q7.out)
  replace Q9:=Lib.hid (keepq hmv Q9.out)
  replace Q11:=Lib.hid (keepq hmv Q11.out)
  replace Q12:=Lib.hid (keepq hmv Q12.out)
  replace Q19:=Lib.hid (keepq hmv Q19.out)
  replace IA:=Lib.hid (IA.out.mono hmv)
  replace IB:=Lib.hid (IB.out.mono hmv)
  replace IE:=Lib.hid (IE.out.mono hmv)
  replace ID:=Lib.hid (ID.out.mono hmv)
  replace GF:=Lib.hid (GF.out.below hmv)
  replace IW:=Lib.hid (IW.out.mono hmv)
  replace HB:=Lib.hid (keep_trans HB.out hmv)
  clear hmv hbt5 hkt5 M2
  go_upto_region 29 with (first|(go_at_call 63;(with_reducible refine (HF.out _ HB.out).mono ?_);rintro _ t6 ⟨rfl,hbt6⟩)|fail)
  have hmv:Below t5.heap.size t5 t6:=hbt6
  replace Q0:=Lib.hid (keepq hmv Q0.out)
  replace Q1:=Lib.hid (keepq hmv Q1.out)
  replace Q7:=Lib.hid (keepq hmv Q7.out)
  replace Q9:=Lib.hid (keepq hmv Q9.out)
  replace Q11:=Lib.hid (keepq hmv Q11.out)
  replace Q12:=Lib.hid (keepq hmv Q12.out)
  replace Q19:=Lib.hid (keepq hmv Q19.out)
  replace IA:=Lib.hid (IA.out.mono hmv)
  replace IB:=Lib.hid (IB.out.mono hmv)
  replace IE:=Lib.hid (IE.out.mono hmv)
  replace ID:=Lib.hid (ID.out.mono hmv)
  replace GF:=Lib.hid (GF.out.below hmv)
  replace IW:=Lib.hid (IW.out.mono hmv)
  replace HB:=Lib.hid (keep_trans HB.out hmv)
  clear hmv hbt6
  go_upto_region 30 with (first|(go_at_call 64;(with_reducible refine (HG.out _ HB.out).mono ?_);rintro _ u8 ⟨a8,c8,a9,c9,rfl,ig8,ig9,hbu8⟩)|fail)
  have gsz:((u8.alloc (.cells #[.int .i64 R3,.int .i64 R3,.slice a8 k3 c8] 24)).alloc (.cells #[.int .i64 R3,.int .i64 R3,.slice a9 k4 c9] 24)).heap.size=u8.heap.size+2:=by simp only[World.size_alloc] <;> omega
  have gB:Below u8.heap.size u8 ((u8.alloc (.cells #[.int .i64 R3,.int .i64 R3,.slice a8 k3 c8] 24)).alloc (.cells #[.int .i64 R3,.int .i64 R3,.slice a9 k4 c9] 24)):=((Below.refl _ _).alloc (Nat.le_refl _) _).alloc (by simp only[World.size_alloc];omega) _
  have gq0:((u8.alloc (.cells #[.int .i64 R3,.int .i64 R3,.slice a8 k3 c8] 24)).alloc (.cells #[.int .i64 R3,.int .i64 R3,.slice a9 k4 c9] 24)).heap[u8.heap.size]?=some (.cells #[.int .i64 R3,.int .i64 R3,.slice a8 k3 c8] 24 (0,0)):=by have h:=World.alloc_heap_new u8 (.cells #[.int .i64 R3,.int .i64 R3,.slice a8 k3 c8] 24);exact (Below.heap_alloc _ _ _ (by simp only[World.size_alloc];omega)).trans (h)
  have gq1:((u8.alloc (.cells #[.int .i64 R3,.int .i64 R3,.slice a8 k3 c8] 24)).alloc (.cells #[.int .i64 R3,.int .i64 R3,.slice a9 k4 c9] 24)).heap[u8.heap.size+1]?=some (.cells #[.int .i64 R3,.int .i64 R3,.slice a9 k4 c9] 24 (0,0)):=by have h:=World.alloc_heap_new (u8.alloc (.cells #[.int .i64 R3,.int .i64 R3,.slice a8 k3 c8] 24)) (.cells #[.int .i64 R3,.int .i64 R3,.slice a9 k4 c9] 24);simp only[World.size_alloc] at h;exact h
  generalize ((u8.alloc (.cells #[.int .i64 R3,.int .i64 R3,.slice a8 k3 c8] 24)).alloc (.cells #[.int .i64 R3,.int .i64 R3,.slice a9 k4 c9] 24))=V8 at gsz gB gq0 gq1 ⊢
  have hmv:Below t6.heap.size t6 V8:=keep_trans hbu8 gB
  replace Q0:=Lib.hid (keepq hmv Q0.out)
  replace Q1:=Lib.hid (keepq hmv Q1.out)
  replace Q7:=Lib.hid (keepq hmv Q7.out)
  replace Q9:=Lib.hid (keepq hmv Q9.out)
  replace Q11:=Lib.hid (keepq hmv Q11.out)
  replace Q12:=Lib.hid (keepq hmv Q12.out)
  replace Q19:=Lib.hid (keepq hmv Q19.out)
  replace IA:=Lib.hid (IA.out.mono hmv)
  replace IB:=Lib.hid (IB.out.mono hmv)
  replace IE:=Lib.hid (IE.out.mono hmv)
  replace ID:=Lib.hid (ID.out.mono hmv)
  replace GF:=Lib.hid (GF.out.below hmv)
  replace IW:=Lib.hid (IW.out.mono hmv)
  replace HB:=Lib.hid (keep_trans HB.out hmv)
  clear hmv
  have Q20:=Lib.hid gq0
  have Q21:=Lib.hid gq1
  have IG:=Lib.hid (ig8.mono gB)
  have IH:=Lib.hid (ig9.mono gB)
  clear hbu8 gsz gq0 gq1 gB ig8 ig9
  have M3:=Lib.hid (fun W (hb:Below V8.heap.size V8 W)=>lmade_v R3 R3 a3 k3 c3 X3 er3 R3 R3 a8 k3 c8 X3 0 W true m3.out (IE.out.mono hb) (IG.out.mono hb))
  have SM:=Lib.hid (fun W (hb:Below V8.heap.size V8 W)=>rsame_c R3 R3 a4 k4 c4 X4 R3 R3 a9 k4 c9 X4 W (ID.out.mono hb) (IH.out.mono hb))
  rw[m4.out] at SM
  have FM:=Lib.hid (fun W (hb:Below V8.heap.size V8 W)=>HI.out W (keep_trans HB.out hb))
  have GS:=Lib.hid (fun W (hb:Below V8.heap.size V8 W) a6 c6 (h6:GL W a6 k5 NN css)=>lgrids_t a5 k5 c5 NN css a6 c6 W (GF.out.below hb) h6 (by have:=hk5.out;omega))
  obtain ⟨s0,s1,s2,sl⟩:=c3_of Q11.out
  obtain ⟨v0,v1,v2,vl⟩:=c3_of Q20.out
  go_wp2_with (first|(go_at_call 24;(with_reducible refine (M3.out _ (Below.refl _ _)).mono ?_);rintro _ t7 ⟨rfl,hbt7⟩;have hkt7:Below V8.heap.size V8 t7:=hbt7;obtain ⟨tt70,tt71,tt72,tt7l⟩:=c3_of (keepq hkt7 Q12.out);obtain ⟨ut70,ut71,ut72,ut7l⟩:=c3_of (keepq hkt7 Q21.out))|(go_at_call 43;(with_reducible refine (SM.out _ (hkt7)).mono ?_);rintro _ t8 ⟨rfl,hbt8⟩;have hkt8:Below V8.heap.size V8 t8:=keep_trans hkt7 hbt8)|(go_at_call 65;(with_reducible refine (FM.out _ hkt8).mono ?_);rintro _ t9 ⟨a6,c6,rfl,gl6,hbt9⟩;have hkt9:=keep_trans hkt8 hbt9)|(go_at_call 29;(with_reducible refine (GS.out _ hkt9 _ _ gl6).mono ?_);rintro _ t10 ⟨rfl,hbt10⟩)|(go_at_call 20;refine (awake4_c _).mono ?_;rintro _ wz ⟨rfl,hbz⟩)|fail)
  refine bodyPost_ret (v := .bool true) ?_ rfl ⟨rfl,keep_trans HB.out (keep_trans (keep_trans hkt9 hbt10) hbz)⟩
  simp[results,Tryz.f11,go_sem]
theorem ltab_ON (r C:Int) (a:Option Addr) (n c:Nat) (m A B:Int) (w:World) (h0:¬300<n) (ea:Int) (R1:Int) (k1:Nat) (X1:List Int) (er1:Int) (R2:Int) (k2:Nat) (X2:List Int) (er2:Int) (R3:Int) (k3 k4:Nat) (X3 X4:List Int) (er3:Int) (k5 NN:Nat) (css:List (List Int)) (hk5:k5≤1000) (er5:Int) (z1:Nat) (Y1:List Int) (m1:madeB R1 R1 X1 er1 m m Y1 0=true) (hbt:btF A B 2=0) (pA pB:Int) (gA gB:Int) (hgA:gA=1) (hgB:gB=1) (l2:Nat) (Y2:List Int) (m2:madeB R2 R2 X2 er2 m m Y2 0=true) (he5:er5=15) (hk0:k5=0) (m3:madeB R3 R3 X3 er3 0 0 [] 15=true) (m4:sameG R3 R3 X4 0 0 []=true)
  (H1:tG w 54 #[.int .i64 m] R1 k1 X1 er1) (H2:tG w 55 #[.int .i64 m,.int .i64 A,.int .i64 B] R2 k2 X2 er2) (H3:tF w m R3 k3 k4 X3 X4 er3) (H4:tL w m k5 NN css er5) (H5:tH w 58 #[.agg #[.int .i64 r,.int .i64 C,.slice a n c]] (.int .i64 ea)) (H6:tH w 22 #[.agg #[.int .i64 r,.int .i64 C,.slice a n c]] (.int .i64 ea)) (H7:∀W,Calls Tryz.prog 59 #[.int .i64 m] W fun e w'=>e = .returned (.int .i64 0)∧Below W.heap.size W w') (H8:tR w #[.int .i64 m,.int .i64 1,.int .i64 1] m z1 Y1) (H9:∀W,Calls Tryz.prog 62 #[.int .i64 A,.int .i64 m] W fun e w'=>e = .returned (.int .i64 pA)∧W=w') (HA:∀W,Calls Tryz.prog 62 #[.int .i64 B,.int .i64 m] W fun e w'=>e = .returned (.int .i64 pB)∧W=w') (HC:tH w 61 #[.int .i64 pA,.int .i64 m] (.int .i64 gA)) (HD:tH w 61 #[.int .i64 pB,.int .i64 m] (.int .i64 gB)) (HE:tR w #[.int .i64 m,.int .i64 A,.int .i64 B] m l2 Y2) (HF:tH w 63 #[.int .i64 m] (.bool false)):Calls Tryz.prog 11 #[.agg #[.int .i64 r,.int .i64 C,.slice a n c],.int .i64 m,.agg #[.int .i64 A,.int .i64 B]] w fun e w'=>e = .returned (.bool true)∧Below w.heap.size w w':=by
 subst hk0
 subst he5
 have hg0:decide ((300:Int)<(n:Int))=false:=decide_eq_false (by omega)
 have e1:(ea != ea)=false:=by simp
 subst hgA hgB
 have H1:=Lib.hid H1
 have H2:=Lib.hid H2
 have H3:=Lib.hid H3
 have H4:=Lib.hid H4
 have H5:=Lib.hid H5
 have H6:=Lib.hid H6
 have hk5:=Lib.hid hk5
 have H7:=Lib.hid H7
 have m1:=Lib.hid m1
 have H8:=Lib.hid H8
 have m2:=Lib.hid m2
 have hbt:=Lib.hid hbt
 have H9:=Lib.hid H9
 have HA:=Lib.hid HA
 have HC:=Lib.hid HC
 have HD:=Lib.hid HD
 have HE:=Lib.hid HE
 have HF:=Lib.hid HF
 have m3:=Lib.hid m3
 have m4:=Lib.hid m4
 go_enter Tryz.func11,Tryz.ntmps11
 go_upto_region 1 with fail
 have fsz:((w.alloc (.cells #[.int .i64 r,.int .i64 C,.slice a n c] 24)).alloc (.cells #[.int .i64 A,.int .i64 B] 62)).heap.size=w.heap.size+2:=by simp only[World.size_alloc] <;> omega
 have fB:Below w.heap.size w ((w.alloc (.cells #[.int .i64 r,.int .i64 C,.slice a n c] 24)).alloc (.cells #[.int .i64 A,.int .i64 B] 62)):=((Below.refl _ _).alloc (Nat.le_refl _) _).alloc (by simp only[World.size_alloc];omega) _
 have fq0:((w.alloc (.cells #[.int .i64 r,.int .i64 C,.slice a n c] 24)).alloc (.cells #[.int .i64 A,.int .i64 B] 62)).heap[w.heap.size]?=some (.cells #[.int .i64 r,.int .i64 C,.slice a n c] 24 (0,0)):=by have h:=World.alloc_heap_new w (.cells #[.int .i64 r,.int .i64 C,.slice a n c] 24);exact (Below.heap_alloc _ _ _ (by simp only[World.size_alloc];omega)).trans (h)
 have fq1:((w.alloc (.cells #[.int .i64 r,.int .i64 C,.slice a n c] 24)).alloc (.cells #[.int .i64 A,.int .i64 B] 62)).heap[w.heap.size+1]?=some (.cells #[.int .i64 A,.int .i64 B] 62 (0,0)):=by have h:=World.alloc_heap_new (w.alloc (.cells #[.int .i64 r,.int .i64 C,.slice a n c] 24)) (.cells #[.int .i64 A,.int .i64 B] 62);simp only[World.size_alloc] at h;exact h
 generalize ((w.alloc (.cells #[.int .i64 r,.int .i64 C,.slice a n c] 24)).alloc (.cells #[.int .i64 A,.int .i64 B] 62))=W0 at fsz fB fq0 fq1 ⊢
 have Q0:=Lib.hid fq0
 have Q1:=Lib.hid fq1
 have HB:=Lib.hid fB
 clear fq0 fq1 fsz fB
 obtain ⟨x0,x1,x2,xl⟩:=c3_of Q0.out
 go_upto_region 3 with (first|(go_at_call 19;(with_reducible refine (lgreat_c r C a n c 300 _).mono ?_);rintro _ g1 ⟨rfl,hbg1⟩)|fail)
 clear x0 x1 x2 xl
 have hmv:Below W0.heap.size W0 g1:=hbg1
 replace Q0:=Lib.hid (keepq hmv Q0.out)
 replace Q1:=Lib.hid (keepq hmv Q1.out)
 replace HB:=Lib.hid (keep_trans HB.out hmv)
 clear hmv hbg1
 go_upto_region 4 with (first|(go_at_call 54;(with_reducible refine (H1.out _ HB.out).mono ?_);rintro _ u1 ⟨a1,c1,rfl,ia,hbu1⟩)|fail)
 have gsz:(u1.alloc (.cells #[.int .i64 R1,.int .i64 R1,.slice a1 k1 c1] 24)).heap.size=u1.heap.size+1:=by simp only[World.size_alloc]
 have gB:Below u1.heap.size u1 (u1.alloc (.cells #[.int .i64 R1,.int .i64 R1,.slice a1 k1 c1] 24)):=(Below.refl _ _).alloc (Nat.le_refl _) _
 have gq0:(u1.alloc (.cells #[.int .i64 R1,.int .i64 R1,.slice a1 k1 c1] 24)).heap[u1.heap.size]?=some (.cells #[.int .i64 R1,.int .i64 R1,.slice a1 k1 c1] 24 (0,0)):=by have h:=World.alloc_heap_new u1 (.cells #[.int .i64 R1,.int .i64 R1,.slice a1 k1 c1] 24);exact h
 generalize (u1.alloc (.cells #[.int .i64 R1,.int .i64 R1,.slice a1 k1 c1] 24))=V1 at gsz gB gq0 ⊢
 have hmv:Below g1.heap.size g1 V1:=keep_trans hbu1 gB
 replace Q0:=Lib.hid (keepq hmv Q0.out)
 replace Q1:=Lib.hid (keepq hmv Q1.out)
 replace HB:=Lib.hid (keep_trans HB.out hmv)
 clear hmv
 have Q7:=Lib.hid gq0
 have IA:=Lib.hid (ia.mono gB)
 clear hbu1 gsz gq0 gB ia
 obtain ⟨y0,y1,yl⟩:=c2_of Q1.out
 go_upto_region 5 with (first|(go_at_call 55;(with_reducible refine (H2.out _ HB.out).mono ?_);rintro _ u2 ⟨a2,c2,rfl,ib,hbu2⟩)|fail)
 have hsz:(u2.alloc (.cells #[.int .i64 R2,.int .i64 R2,.slice a2 k2 c2] 24)).heap.size=u2.heap.size+1:=by simp only[World.size_alloc]
 have hB:Below u2.heap.size u2 (u2.alloc (.cells #[.int .i64 R2,.int .i64 R2,.slice a2 k2 c2] 24)):=(Below.refl _ _).alloc (Nat.le_refl _) _
 have hq0:(u2.alloc (.cells #[.int .i64 R2,.int .i64 R2,.slice a2 k2 c2] 24)).heap[u2.heap.size]?=some (.cells #[.int .i64 R2,.int .i64 R2,.slice a2 k2 c2] 24 (0,0)):=by have h:=World.alloc_heap_new u2 (.cells #[.int .i64 R2,.int .i64 R2,.slice a2 k2 c2] 24);exact h
 generalize (u2.alloc (.cells #[.int .i64 R2,.int .i64 R2,.slice a2 k2 c2] 24))=V2 at hsz hB hq0 ⊢
 clear y0 y1 yl
 have hmv:Below V1.heap.size V1 V2:=keep_trans hbu2 hB
 replace Q0:=Lib.hid (keepq hmv Q0.out)
 replace Q1:=Lib.hid (keepq hmv Q1.out)
 replace Q7:=Lib.hid (keepq hmv Q7.out)
 replace IA:=Lib.hid (IA.out.mono hmv)
 replace HB:=Lib.hid (keep_trans HB.out hmv)
 clear hmv
 have Q9:=Lib.hid hq0
 have IB:=Lib.hid (ib.mono hB)
 clear hbu2 hsz hq0 hB ib
 go_upto_region 6 with (first|(go_at_call 56;(with_reducible refine (H3.out _ HB.out).mono ?_);rintro _ u3 ⟨a3,c3,a4,c4,rfl,ic3,id4,hbu3⟩)|fail)
 have gsz:((u3.alloc (.cells #[.int .i64 R3,.int .i64 R3,.slice a3 k3 c3] 24)).alloc (.cells #[.int .i64 R3,.int .i64 R3,.slice a4 k4 c4] 24)).heap.size=u3.heap.size+2:=by simp only[World.size_alloc] <;> omega
 have gB:Below u3.heap.size u3 ((u3.alloc (.cells #[.int .i64 R3,.int .i64 R3,.slice a3 k3 c3] 24)).alloc (.cells #[.int .i64 R3,.int .i64 R3,.slice a4 k4 c4] 24)):=((Below.refl _ _).alloc (Nat.le_refl _) _).alloc (by simp only[World.size_alloc];omega) _
 have gq0:((u3.alloc (.cells #[.int .i64 R3,.int .i64 R3,.slice a3 k3 c3] 24)).alloc (.cells #[.int .i64 R3,.int .i64 R3,.slice a4 k4 c4] 24)).heap[u3.heap.size]?=some (.cells #[.int .i64 R3,.int .i64 R3,.slice a3 k3 c3] 24 (0,0)):=by have h:=World.alloc_heap_new u3 (.cells #[.int .i64 R3,.int .i64 R3,.slice a3 k3 c3] 24);exact (Below.heap_alloc _ _ _ (by simp only[World.size_alloc];omega)).trans (h)
 have gq1:((u3.alloc (.cells #[.int .i64 R3,.int .i64 R3,.slice a3 k3 c3] 24)).alloc (.cells #[.int .i64 R3,.int .i64 R3,.slice a4 k4 c4] 24)).heap[u3.heap.size+1]?=some (.cells #[.int .i64 R3,.int .i64 R3,.slice a4 k4 c4] 24 (0,0)):=by have h:=World.alloc_heap_new (u3.alloc (.cells #[.int .i64 R3,.int .i64 R3,.slice a3 k3 c3] 24)) (.cells #[.int .i64 R3,.int .i64 R3,.slice a4 k4 c4] 24);simp only[World.size_alloc] at h;exact h
 generalize ((u3.alloc (.cells #[.int .i64 R3,.int .i64 R3,.slice a3 k3 c3] 24)).alloc (.cells #[.int .i64 R3,.int .i64 R3,.slice a4 k4 c4] 24))=V3 at gsz gB gq0 gq1 ⊢
 have hmv:Below V2.heap.size V2 V3:=keep_trans hbu3 gB
 replace Q0:=Lib.hid (keepq hmv Q0.out)
 replace Q1:=Lib.hid (keepq hmv Q1.out)
 replace Q7:=Lib.hid (keepq hmv Q7.out)
 replace Q9:=Lib.hid (keepq hmv Q9.out)
 replace IA:=Lib.hid (IA.out.mono hmv)
 replace IB:=Lib.hid (IB.out.mono hmv)
 replace HB:=Lib.hid (keep_trans HB.out hmv)
 clear hmv
 have Q11:=Lib.hid gq0
 have Q12:=Lib.hid gq1
 have IE:=Lib.hid (ic3.mono gB)
 have ID:=Lib.hid (id4.mono gB)
 clear hbu3 gsz gq0 gq1 gB ic3 id4
 go_upto_region 7 with (first|(go_at_call 57;(with_reducible refine (H4.out _ HB.out).mono ?_);rintro _ u4 ⟨a5,c5,rfl,gl5,hbu4⟩)|fail)
 have hmv:Below V3.heap.size V3 u4:=hbu4
 replace Q0:=Lib.hid (keepq hmv Q0.out)
 replace Q1:=Lib.hid (keepq hmv Q1.out)
 replace Q7:=Lib.hid (keepq hmv Q7.out)
 replace Q9:=Lib.hid (keepq hmv Q9.out)
 replace Q11:=Lib.hid (keepq hmv Q11.out)
 replace Q12:=Lib.hid (keepq hmv Q12.out)
 replace IA:=Lib.hid (IA.out.mono hmv)
 replace IB:=Lib.hid (IB.out.mono hmv)
 replace IE:=Lib.hid (IE.out.mono hmv)
 replace ID:=Lib.hid (ID.out.mono hmv)
 replace HB:=Lib.hid (keep_trans HB.out hmv)
 clear hmv
 have GF:=Lib.hid gl5
 clear hbu4 gl5
 obtain ⟨x0,x1,x2,xl⟩:=c3_of Q0.out
 refine wp_region_S (fun w'=>∃u,w'=over (u4) u) [] [(0,0),(0,2),(1,1),(1,3),(0,4)] (by kernel_rfl) (by kernel_rfl) (by exact ⟨_,below_over (by repeat (first|assumption|exact Below.refl _ _|refine keep_drew ?_|refine keep_alloc ?_ _|refine keep_trans ?_ (by assumption)))⟩) ?_
 dsimp only[pickOps,nthOp]
 repeat (first|(refine wpS_skip rfl (fun K hK=>?_);go_big_quiet_op;refine hK _ ?_;clear hK K)|(refine wpS_quiet rfl rfl (fun K hK=>?_);go_big_quiet_op;refine hK _ ?_;clear hK K)|(refine wpS_loud ?_;go_wp2_with (first|(go_at_call 58;(with_reducible refine (H5.out _ (keep_trans HB.out (by (repeat (first|assumption|exact Below.refl _ _|refine keep_drew ?_|refine keep_alloc ?_ _|refine keep_trans ?_ (by assumption)))))).mono ?_);rintro _ u5 ⟨rfl,hbu5⟩)|(go_at_call 22;(with_reducible refine (H6.out _ (keep_trans HB.out (by (repeat (first|assumption|exact Below.refl _ _|refine keep_drew ?_|refine keep_alloc ?_ _|refine keep_trans ?_ (by assumption)))))).mono ?_);rintro _ u6 ⟨rfl,hbu6⟩)|fail);refine ⟨?_,?_⟩;focus (exact ⟨_,below_over (by repeat (first|assumption|exact Below.refl _ _|refine keep_drew ?_|refine keep_alloc ?_ _|refine keep_trans ?_ (by assumption)))⟩)))
 refine wpS_end ?_
 clear x0 x1 x2 xl
 have hmv:Below u4.heap.size u4 u6:=(by (repeat (first|assumption|exact Below.refl _ _|refine keep_drew ?_|refine keep_alloc ?_ _|refine keep_trans ?_ (by assumption))))
 replace Q0:=Lib.hid (keepq hmv Q0.out)
 replace Q1:=Lib.hid (keepq hmv Q1.out)
 replace Q7:=Lib.hid (keepq hmv Q7.out)
 replace Q9:=Lib.hid (keepq hmv Q9.out)
 replace Q11:=Lib.hid (keepq hmv Q11.out)
 replace Q12:=Lib.hid (keepq hmv Q12.out)
 replace IA:=Lib.hid (IA.out.mono hmv)
 replace IB:=Lib.hid (IB.out.mono hmv)
 replace IE:=Lib.hid (IE.out.mono hmv)
 replace ID:=Lib.hid (ID.out.mono hmv)
 replace GF:=Lib.hid (GF.out.below hmv)
 replace HB:=Lib.hid (keep_trans HB.out hmv)
 clear hmv hbu5 hbu6
 go_upto_region 10 with (first|(go_at_call 59;(with_reducible refine (H7.out _).mono ?_);rintro _ u7 ⟨rfl,hbu7⟩)|fail)
 have hmv:Below u6.heap.size u6 u7:=hbu7
 replace Q0:=Lib.hid (keepq hmv Q0.out)
 replace Q1:=Lib.hid (keepq hmv Q1.out)
 replace Q7:=Lib.hid (keepq hmv Q7.out)
 replace Q9:=Lib.hid (keepq hmv Q9.out)
 replace Q11:=Lib.hid (keepq hmv Q11.out)
 replace Q12:=Lib.hid (keepq hmv Q12.out)
 replace IA:=Lib.hid (IA.out.mono hmv)
 replace IB:=Lib.hid (IB.out.mono hmv)
 replace IE:=Lib.hid (IE.out.mono hmv)
 replace ID:=Lib.hid (ID.out.mono hmv)
 replace GF:=Lib.hid (GF.out.below hmv)
 replace HB:=Lib.hid (keep_trans HB.out hmv)
 clear hmv hbu7
 obtain ⟨p0,p1,p2,pl⟩:=c3_of Q7.out
 go_upto_region 12 with fail
 have RL:=Lib.hid (fun W (hb:Below u7.heap.size u7 W)=>H8.out W (keep_trans HB.out hb))
 have MA:=Lib.hid (fun W (hb:Below u7.heap.size u7 W) a7 c7 (i7:IC W a7 z1 Y1)=>lmade_v R1 R1 a1 k1 c1 X1 er1 m m a7 z1 c7 Y1 0 W true m1.out (IA.out.mono hb) i7)
 refine wp_region_S (fun w'=>∃u,w'=over (u7) u) [] [(0,0),(0,1),(0,2),(1,3),(1,4),(0,5)] (by kernel_rfl) (by kernel_rfl) (by exact ⟨_,below_over (by repeat (first|assumption|exact Below.refl _ _|refine keep_drew ?_|refine keep_alloc ?_ _|refine keep_trans ?_ (by assumption)))⟩) ?_
 dsimp only[pickOps,nthOp]
 repeat (first|(refine wpS_skip rfl (fun K hK=>?_);go_big_quiet_op;refine hK _ ?_;clear hK K)|(refine wpS_quiet rfl rfl (fun K hK=>?_);go_big_quiet_op;refine hK _ ?_;clear hK K)|(refine wpS_loud ?_;go_wp2_with (first|(go_at_call 60;(with_reducible refine (RL.out _ (by (repeat (first|assumption|exact Below.refl _ _|refine keep_drew ?_|refine keep_alloc ?_ _|refine keep_trans ?_ (by assumption))))).mono ?_);rintro _ t1 ⟨a7,c7,rfl,hf7,i7,hbt1⟩)|(go_at_call 24;(with_reducible refine (MA.out _ (by (repeat (first|assumption|exact Below.refl _ _|refine keep_drew ?_|refine keep_alloc ?_ _|refine keep_trans ?_ (by assumption)))) _ _ i7).mono ?_);rintro _ t2 ⟨rfl,hbt2⟩)|fail);refine ⟨?_,?_⟩;focus (exact ⟨_,below_over (by repeat (first|assumption|exact Below.refl _ _|refine keep_drew ?_|refine keep_alloc ?_ _|refine keep_trans ?_ (by assumption)))⟩)))
 refine wpS_end ?_
 clear p0 p1 p2 pl
 have hmv:Below u7.heap.size u7 t2:=(by (repeat (first|assumption|exact Below.refl _ _|refine keep_drew ?_|refine keep_alloc ?_ _|refine keep_trans ?_ (by assumption))))
 replace Q0:=Lib.hid (keepq hmv Q0.out)
 replace Q1:=Lib.hid (keepq hmv Q1.out)
 replace Q7:=Lib.hid (keepq hmv Q7.out)
 replace Q9:=Lib.hid (keepq hmv Q9.out)
 replace Q11:=Lib.hid (keepq hmv Q11.out)
 replace Q12:=Lib.hid (keepq hmv Q12.out)
 replace IA:=Lib.hid (IA.out.mono hmv)
 replace IB:=Lib.hid (IB.out.mono hmv)
 replace IE:=Lib.hid (IE.out.mono hmv)
 replace ID:=Lib.hid (ID.out.mono hmv)
 replace GF:=Lib.hid (GF.out.below hmv)
 replace HB:=Lib.hid (keep_trans HB.out hmv)
 clear hmv hbt1 hbt2 i7 hf7 RL MA
 obtain ⟨y0,y1,yl⟩:=c2_of Q1.out
 go_upto_region 15 with fail
 go_loopw [16,18,103] (fun s16 _ s103 wr=>∃k:Nat,k≤2∧s103 = .int .i64 (k:Int)∧s16 = .int .i64 (btF A B k)∧wr=t2) (fun _ _ s103 _=>2 - (intOf s103).toNat)
 case atStart=>exact ⟨0,by omega,rfl,rfl,rfl⟩
 case round =>
  obtain ⟨k,hk,rfl,rfl,hwr⟩:=hrel
  replace hwr:=hwr.symm
  subst hwr
  by_cases hk0:k=0
  ·subst hk0
   have b0:Hid (btF A B 1=if farB A=true then 3 else btF A B 0):=rfl
   generalize btF A B 0=bv at b0 ⊢
   by_cases f1:A < -999999999
   ·have d1:decide (A < -999999999)=true:=decide_eq_true f1
    have b1:Hid (btF A B 1=3):=by unfold Hid;rw[b0.out,if_pos (by unfold farB;rw[d1];rfl)]
    clear b0
    go_wp2_with (first|(rw[ix2a])|fail)
    go_roundw
    case rel=>exact ⟨1,by omega,by go_num,by rw[b1.out],trivial⟩
    case measure=>simp[intOf]
   ·have d1:decide (A < -999999999)=false:=decide_eq_false f1
    by_cases f2:999999999<A
    ·have d2:decide (999999999<A)=true:=decide_eq_true f2
     have b1:Hid (btF A B 1=3):=by unfold Hid;rw[b0.out,if_pos (by unfold farB;rw[d1,d2];rfl)]
     clear b0
     go_wp2_with (first|(rw[ix2a])|fail)
     go_roundw
     case rel=>exact ⟨1,by omega,by go_num,by rw[b1.out],trivial⟩
     case measure=>simp[intOf]
    ·have d2:decide (999999999<A)=false:=decide_eq_false f2
     have b1:Hid (btF A B 1=bv):=by unfold Hid;rw[b0.out,if_neg (by unfold farB;rw[d1,d2];decide)]
     clear b0
     go_wp2_with (first|(rw[ix2a])|fail)
     go_roundw
     case rel=>exact ⟨1,by omega,by go_num,by rw[b1.out],trivial⟩
     case measure=>simp[intOf]
  by_cases hk1:k=1
  ·subst hk1
   have b0:Hid (btF A B 2=if farB B=true then 3 else btF A B 1):=rfl
   generalize btF A B 1=bv at b0 ⊢
   by_cases f1:B < -999999999
   ·have d1:decide (B < -999999999)=true:=decide_eq_true f1
    have b1:Hid (btF A B 2=3):=by unfold Hid;rw[b0.out,if_pos (by unfold farB;rw[d1];rfl)]
    clear b0
    go_wp2_with (first|(rw[ix2b])|fail)
    go_roundw
    case rel=>exact ⟨2,by omega,by go_num,by rw[b1.out],trivial⟩
    case measure=>simp[intOf]
   ·have d1:decide (B < -999999999)=false:=decide_eq_false f1
    by_cases f2:999999999<B
    ·have d2:decide (999999999<B)=true:=decide_eq_true f2
     have b1:Hid (btF A B 2=3):=by unfold Hid;rw[b0.out,if_pos (by unfold farB;rw[d1,d2];rfl)]
     clear b0
     go_wp2_with (first|(rw[ix2b])|fail)
     go_roundw
     case rel=>exact ⟨2,by omega,by go_num,by rw[b1.out],trivial⟩
     case measure=>simp[intOf]
    ·have d2:decide (999999999<B)=false:=decide_eq_false f2
     have b1:Hid (btF A B 2=bv):=by unfold Hid;rw[b0.out,if_neg (by unfold farB;rw[d1,d2];decide)]
     clear b0
     go_wp2_with (first|(rw[ix2b])|fail)
     go_roundw
     case rel=>exact ⟨2,by omega,by go_num,by rw[b1.out],trivial⟩
     case measure=>simp[intOf]
  have hk2:k=2:=by omega
  subst hk2
  rw[hbt.out]
  go_upto_region 22 with (first|(go_at_call 62;(with_reducible refine (H9.out _).mono ?_);rintro _ _ ⟨rfl,rfl⟩)|(go_at_call 61;(with_reducible refine (HC.out _ HB.out).mono ?_);rintro _ e1 ⟨rfl,hbe1⟩;have hke1:Below t2.heap.size t2 e1:=hbe1;obtain ⟨ye10,ye11,ye1l⟩:=c2_of (keepq hke1 Q1.out))|(go_at_call 62;(with_reducible refine (HA.out _).mono ?_);rintro _ _ ⟨rfl,rfl⟩)|(go_at_call 61;(with_reducible refine (HD.out _ (keep_trans HB.out hke1)).mono ?_);rintro _ e2 ⟨rfl,hbe2⟩;have hke2:Below t2.heap.size t2 e2:=keep_trans hke1 hbe2)|fail)
  clear y0 y1 yl ye10 ye11 ye1l
  have hmv:Below t2.heap.size t2 e2:=hke2
  replace Q0:=Lib.hid (keepq hmv Q0.out)
  replace Q1:=Lib.hid (keepq hmv Q1.out)
  replace Q7:=Lib.hid (keepq hmv Q7.out)
  replace Q9:=Lib.hid (keepq hmv Q9.out)
  replace Q11:=Lib.hid (keepq hmv Q11.out)
  replace Q12:=Lib.hid (keepq hmv Q12.out)
  replace IA:=Lib.hid (IA.out.mono hmv)
  replace IB:=Lib.hid (IB.out.mono hmv)
  replace IE:=Lib.hid (IE.out.mono hmv)
  replace ID:=Lib.hid (ID.out.mono hmv)
  replace GF:=Lib.hid (GF.out.below hmv)
  replace HB:=Lib.hid (keep_trans HB.out hmv)
  clear hmv hbe1 hke1 hbe2 hke2
  go_upto_region 23 with fail
  have gsz:(e2.alloc (.cells #[.int .i64 0,.int .i64 0,.slice none 0 0] 24)).heap.size=e2.heap.size+1:=by simp only[World.size_alloc]
  have gB:Below e2.heap.size e2 (e2.alloc (.cells #[.int .i64 0,.int .i64 0,.slice none 0 0] 24)):=(Below.refl _ _).alloc (Nat.le_refl _) _
  have gq0:(e2.alloc (.cells #[.int .i64 0,.int .i64 0,.slice none 0 0] 24)).heap[e2.heap.size]?=some (.cells #[.int .i64 0,.int .i64 0,.slice none 0 0] 24 (0,0)):=by have h:=World.alloc_heap_new e2 (.cells #[.int .i64 0,.int .i64 0,.slice none 0 0] 24);exact h
  generalize (e2.alloc (.cells #[.int .i64 0,.int .i64 0,.slice none 0 0] 24))=V9 at gsz gB gq0 ⊢
  have Q19:=Lib.hid gq0
  have GB:=Lib.hid gB
  clear gsz gq0 gB
  obtain ⟨y0,y1,yl⟩:=c2_of (keepq GB.out Q1.out)
  go_upto_region 25 with (first|(go_at_call 60;refine (HE.out _ (keep_trans HB.out GB.out)).mono ?_;rintro _ w7 ⟨a7,c7,rfl,hf7,i7,hbw7⟩;obtain ⟨z0,z1,z2,zl⟩:=c3_of (keepq hbw7 Q19.out);obtain ⟨zf0,zf1,zf2⟩:=f3_of (keepq hbw7 Q19.out))|fail)
  have g3:=st3_q (x0 := .int .i64 m) (x1 := .int .i64 m) (x2 := .slice a7 l2 c7) (keepq hbw7 Q19.out)
  have hb3:=st3_below (x0 := .int .i64 m) (x1 := .int .i64 m) (x2 := .slice a7 l2 c7) (b:=e2.heap.size) (keep_trans GB.out hbw7) (Nat.le_refl _)
  have hsz9:=GB.out.size
  have hlt9:=q_lt Q19.out
  have i8:=i7.st3 (x0 := .int .i64 m) (x1 := .int .i64 m) (x2 := .slice a7 l2 c7) (b:=e2.heap.size) (fun b o e=>by have:=hf7 b o e;omega)
  generalize (((w7.setCell ⟨e2.heap.size,0,none⟩ (.int .i64 m)).setCell ⟨e2.heap.size,1,none⟩ (.int .i64 m)).setCell ⟨e2.heap.size,2,none⟩ (.slice a7 l2 c7))=W9 at g3 hb3 i8 ⊢
  clear y0 y1 yl z0 z1 z2 zl zf0 zf1 zf2 hf7 i7 hbw7 hsz9 hlt9 Q19 GB
  have hmv:Below e2.heap.size e2 W9:=hb3
  replace Q0:=Lib.hid (keepq hmv Q0.out)
  replace Q1:=Lib.hid (keepq hmv Q1.out)
  replace Q7:=Lib.hid (keepq hmv Q7.out)
  replace Q9:=Lib.hid (keepq hmv Q9.out)
  replace Q11:=Lib.hid (keepq hmv Q11.out)
  replace Q12:=Lib.hid (keepq hmv Q12.out)
  replace IA:=Lib.hid (IA.out.mono hmv)
  replace IB:=Lib.hid (IB.out.mono hmv)
  replace IE:=Lib.hid (IE.out.mono hmv)
  replace ID:=Lib.hid (ID.out.mono hmv)
  replace GF:=Lib.hid (GF.out.below hmv)
  replace HB:=Lib.hid (keep_trans HB.out hmv)
  clear hmv hb3
  have Q19:=Lib.hid g3
  have IW:=Lib.hid i8
  clear g3 i8
  have M2:=Lib.hid (fun W (hb:Below W9.heap.size W9 W)=>lmade_v R2 R2 a2 k2 c2 X2 er2 m m a7 l2 c7 Y2 0 W true m2.out (IB.out.mono hb) (IW.out.mono hb))
  obtain ⟨q0,q1,q2,ql⟩:=c3_of Q9.out
  obtain ⟨z0,z1,z2,zl⟩:=c3_of Q19.out
  go_upto_region 27 with (first|(go_at_call 24;(with_reducible refine (M2.out _ (Below.refl _ _)).mono ?_);rintro _ t5 ⟨rfl,hbt5⟩;have hkt5:Below W9.heap.size W9 t5:=hbt5)|fail)
  clear q0 q1 q2 ql z0 z1 z2 zl
  have hmv:Below W9.heap.size W9 t5:=hbt5
  replace Q0:=Lib.hid (keepq hmv Q0.out)
  replace Q1:=Lib.hid (keepq hmv Q1.out)
  replace Q7:=Lib.hid (keepq hmv Q7.out)
  replace Q9:=Lib.hid (keepq hmv Q9.out)
  replace Q11:=Lib.hid (keepq hmv Q11.out)
  replace Q12:=Lib.hid (keepq hmv Q12.out)
  replace Q19:=Lib.hid (keepq hmv Q19.out)
  replace IA:=Lib.hid (IA.out.mono hmv)
  replace IB:=Lib.hid (IB.out.mono hmv)
  replace IE:=Lib.hid (IE.out.mono hmv)
  replace ID:=Lib.hid (ID.out.mono hmv)
  replace GF:=Lib.hid (GF.out.below hmv)
  replace IW:=Lib.hid (IW.out.mono hmv)
  replace HB:=Lib.hid (keep_trans HB.out hmv)
  clear hmv hbt5 hkt5 M2
  go_upto_region 28 with (first|(go_at_call 63;(with_reducible refine (HF.out _ HB.out).mono ?_);rintro _ t6 ⟨rfl,hbt6⟩)|fail)
  have hmv:Below t5.heap.size t5 t6:=hbt6
  replace Q0:=Lib.hid (keepq hmv Q0.out)
  replace Q1:=Lib.hid (keepq hmv Q1.out)
  replace Q7:=Lib.hid (keepq hmv Q7.out)
  replace Q9:=Lib.hid (keepq hmv Q9.out)
  replace Q11:=Lib.hid (keepq hmv Q11.out)
  replace Q12:=Lib.hid (keepq hmv Q12.out)
  replace Q19:=Lib.hid (keepq hmv Q19.out)
  replace IA:=Lib.hid (IA.out.mono hmv)
  replace IB:=Lib.hid (IB.out.mono hmv)
  replace IE:=Lib.hid (IE.out.mono hmv)
  replace ID:=Lib.hid (ID.out.mono hmv)
  replace GF:=Lib.hid (GF.out.below hmv)
  replace IW:=Lib.hid (IW.out.mono hmv)
  replace HB:=Lib.hid (keep_trans HB.out hmv)
  clear hmv hbt6
  have M3:=Lib.hid (fun W (hb:Below t6.heap.size t6 W)=>lmade_v R3 R3 a3 k3 c3 X3 er3 0 0 none 0 0 [] 15 W true m3.out (IE.out.mono hb) ⟨⟨rfl,by omega⟩,fun k hk=>absurd hk (by omega)⟩)
  have SM:=Lib.hid (fun W (hb:Below t6.heap.size t6 W)=>rsame_c R3 R3 a4 k4 c4 X4 0 0 none 0 0 [] W (ID.out.mono hb) ⟨⟨rfl,by omega⟩,fun k hk=>absurd hk (by omega)⟩)
  rw[m4.out] at SM
  obtain ⟨s0,s1,s2,sl⟩:=c3_of Q11.out
  go_wp2_with (first|(go_at_call 24;(with_reducible refine (M3.out _ (Below.refl _ _)).mono ?_);rintro _ t7 ⟨rfl,hbt7⟩;have hkt7:Below t6.heap.size t6 t7:=hbt7;obtain ⟨tt70,tt71,tt72,tt7l⟩:=c3_of (keepq hkt7 Q12.out))|(go_at_call 43;(with_reducible refine (SM.out _ (hkt7)).mono ?_);rintro _ t8 ⟨rfl,hbt8⟩;have hkt8:Below t6.heap.size t6 t8:=keep_trans hkt7 hbt8)|(go_at_call 20;refine (awake4_c _).mono ?_;rintro _ wz ⟨rfl,hbz⟩)|fail)
  refine bodyPost_ret (v := .bool true) ?_ rfl ⟨rfl,keep_trans HB.out (keep_trans hkt8 hbz)⟩
  simp[results,Tryz.f11,go_sem]
end
end Go.Proofs.YtmfpdakaeagdpaaGreat
