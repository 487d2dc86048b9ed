/- Texts J91 to J95 of this proof, in one file. -/
import Derived.Test.YtmfpdakaeagdpaaGreatW01
import Derived.Test.YtmfpdakaeagdpaaGreatW02
import Derived.Test.YtmfpdakaeagdpaaGreatW03
import Derived.Test.YtmfpdakaeagdpaaGreatW04
import Derived.Test.YtmfpdakaeagdpaaGreatW05
import Derived.Test.YtmfpdakaeagdpaaGreatW06
import Derived.Test.YtmfpdakaeagdpaaGreatW07
import Derived.Test.YtmfpdakaeagdpaaGreatW08
import Derived.Test.YtmfpdakaeagdpaaGreatW09
import Derived.Test.YtmfpdakaeagdpaaGreatW10
import Derived.Test.YtmfpdakaeagdpaaGreatW11
import Derived.Test.YtmfpdakaeagdpaaGreatW12
import Derived.Test.YtmfpdakaeagdpaaGreatW13
import Derived.Test.YtmfpdakaeagdpaaGreatW19
import Derived.Test.YtmfpdakaeagdpaaGreatW20
import Derived.Test.YtmfpdakaeagdpaaGreatW21
import Derived.Test.YtmfpdakaeagdpaaGreatW22
import Derived.Below
import Derived.BigFrame
import Derived.BigQuiet
import Derived.Deep.CutBlock
import Derived.Deep.CutRange
import Derived.Deep.LoopGhost
import Derived.Deep.Quiet
import Derived.Deep.RegionHeld3
import Derived.DeepKeys4
import Derived.KernelRfl
import Derived.Laws.BitsAllLaws
import Derived.Laws.EntriesVeiled
import Derived.Lib.Hide
import Derived.Lib.SliceRun
import Derived.LoopIn
import Derived.LoopNIn
import Derived.Maps.AppendAt
import Derived.Maps.OwnIn
import Derived.Maps.OwnSet
import Derived.OneCell
import Derived.OrdersHeld
import Derived.OrdersIn
import Derived.OwnWalkIn
import Derived.RangeFuncBound
import Derived.RangeFuncBox
import Derived.RangeFuncCalls
import Derived.RangeFuncLeaves
import Derived.RangeFuncNested
import Derived.RangeFuncWrites
import Derived.Shelf.Abstract
import Derived.Still
import Derived.TacticsIn
import Derived.TacticsInMore
import Derived.Test.YtmfpdakaeagdpaaGreatProg
import Derived.WalkKit
import Derived.WalkLawsBesides
import Derived.WalkSpells
import Derived.WideKeyPair
namespace Go.Proofs.YtmfpdakaeagdpaaGreat
set_option maxRecDepth 100000
set_option maxHeartbeats 16000000
section
open Go Go.RowKit
attribute [local go_sem] over_cell
attribute [local go_sem] Oper.semAt_some
def FieldE (w:World) (q p:Nat) (zs:List Int) (b:Bool) (e:Ending) (w':World):Prop :=
 ∃a c,e = .returned (.tuple #[.agg #[.int .i64 (q:Int),.int .i64 (p:Int),.slice a zs.length c],.bool b])∧w'.ownsRow w.heap.size 3 1 (.slice a zs.length c) zs.length (zs.map (Value.int .i64))∧Below w.heap.size w w'
theorem own_c1 (w:World) (x:Int) (B:Nat) (T:TypeId) (hB:B≤w.heap.size):(w.alloc (.cells #[.int .i64 x] T)).ownsRow B T 1 (.slice (some ⟨w.heap.size,0,none⟩) 1 1) 1 [.int .i64 x] :=
 ⟨rfl,.inr ⟨w.heap.size,1,_,rfl,hB,World.alloc_heap_new _ _,Nat.le_refl _,by unfold maxLen;omega,rfl,rfl⟩⟩
theorem own_c2 (w:World) (x y:Int) (B:Nat) (T:TypeId) (hB:B≤w.heap.size):(w.alloc (.cells #[.int .i64 x,.int .i64 y] T)).ownsRow B T 1 (.slice (some ⟨w.heap.size,0,none⟩) 2 2) 2 [.int .i64 x,.int .i64 y] :=
 ⟨rfl,.inr ⟨w.heap.size,2,_,rfl,hB,World.alloc_heap_new _ _,Nat.le_refl _,by unfold maxLen;omega,rfl,rfl⟩⟩
theorem own_c3 (w:World) (x y z:Int) (B:Nat) (T:TypeId) (hB:B≤w.heap.size):(w.alloc (.cells #[.int .i64 x,.int .i64 y,.int .i64 z] T)).ownsRow B T 1 (.slice (some ⟨w.heap.size,0,none⟩) 3 3) 3 [.int .i64 x,.int .i64 y,.int .i64 z] :=
 ⟨rfl,.inr ⟨w.heap.size,3,_,rfl,hB,World.alloc_heap_new _ _,Nat.le_refl _,by unfold maxLen;omega,rfl,rfl⟩⟩
theorem own_c4 (w:World) (x y z u:Int) (B:Nat) (T:TypeId) (hB:B≤w.heap.size):(w.alloc (.cells #[.int .i64 x,.int .i64 y,.int .i64 z,.int .i64 u] T)).ownsRow B T 1 (.slice (some ⟨w.heap.size,0,none⟩) 4 4) 4 [.int .i64 x,.int .i64 y,.int .i64 z,.int .i64 u] :=
 ⟨rfl,.inr ⟨w.heap.size,4,_,rfl,hB,World.alloc_heap_new _ _,Nat.le_refl _,by unfold maxLen;omega,rfl,rfl⟩⟩
theorem fof4_c (w:World):Calls Tryz.prog 168 #[.int .i64 4] w (FieldE w 4 2 [1,1] true):=by
 go_enter Tryz.func168,Tryz.ntmps168
 go_upto_region 1 with fail
 have fsz:(w.alloc (.cells #[.int .i64 0,.int .i64 0,.slice none 0 0] 136)).heap.size=w.heap.size+1:=by simp only[World.size_alloc]
 have fB:Below w.heap.size w (w.alloc (.cells #[.int .i64 0,.int .i64 0,.slice none 0 0] 136)):=(Below.refl _ _).alloc (Nat.le_refl _) _
 have fq0:(w.alloc (.cells #[.int .i64 0,.int .i64 0,.slice none 0 0] 136)).heap[w.heap.size]?=some (.cells #[.int .i64 0,.int .i64 0,.slice none 0 0] 136 (0,0)):=by have h:=World.alloc_heap_new w (.cells #[.int .i64 0,.int .i64 0,.slice none 0 0] 136);exact h
 generalize (w.alloc (.cells #[.int .i64 0,.int .i64 0,.slice none 0 0] 136))=W0 at fsz fB fq0 ⊢
 obtain ⟨y0,y1,y2,yl⟩:=c3_of fq0
 obtain ⟨yf0,yf1,yf2⟩:=f3_of fq0
 have Q0:=Lib.hid fq0
 have hsz:w.heap.size+1=W0.heap.size:=fsz.symm
 clear fsz fq0
 go_wp2_with fail
 have g3:=st3_q (x0 := .int .i64 4) (x1 := .int .i64 2) (x2 := .slice (some ⟨W0.heap.size,0,none⟩) 2 2) Q0.out
 have hb3:=st3_below (x0 := .int .i64 4) (x1 := .int .i64 2) (x2 := .slice (some ⟨W0.heap.size,0,none⟩) 2 2) (b:=w.heap.size) fB (Nat.le_refl _)
 have hs3:(((W0.setCell ⟨w.heap.size,0,none⟩ (.int .i64 4)).setCell ⟨w.heap.size,1,none⟩ (.int .i64 2)).setCell ⟨w.heap.size,2,none⟩ (.slice (some ⟨W0.heap.size,0,none⟩) 2 2)).heap.size=W0.heap.size:=by simp
 generalize (((W0.setCell ⟨w.heap.size,0,none⟩ (.int .i64 4)).setCell ⟨w.heap.size,1,none⟩ (.int .i64 2)).setCell ⟨w.heap.size,2,none⟩ (.slice (some ⟨W0.heap.size,0,none⟩) 2 2))=W3 at g3 hb3 hs3 ⊢
 have hA:=own_c2 W3 1 1 w.heap.size 3 (by omega)
 rw[hs3] at hA
 have hb4:=hb3.alloc (by omega) (.cells #[.int .i64 1,.int .i64 1] 3)
 have hbA:Below W3.heap.size W3 (W3.alloc (.cells #[.int .i64 1,.int .i64 1] 3)):=keep_alloc (Below.refl _ _) _
 obtain ⟨z0,z1,z2,zl⟩:=c3_of (keepq hbA g3)
 refine bodyPost_ret (v := .tuple #[.agg #[.int .i64 4,.int .i64 2,.slice (some ⟨W0.heap.size,0,none⟩) 2 2],.bool true]) ?_ rfl ⟨_,2,rfl,hA,hb4⟩
 simp[results,Tryz.f168,go_sem,z0,z1,z2]
theorem fof8_c (w:World):Calls Tryz.prog 168 #[.int .i64 8] w (FieldE w 8 2 [1,1,0] true):=by
 go_enter Tryz.func168,Tryz.ntmps168
 go_upto_region 1 with fail
 have fsz:(w.alloc (.cells #[.int .i64 0,.int .i64 0,.slice none 0 0] 136)).heap.size=w.heap.size+1:=by simp only[World.size_alloc]
 have fB:Below w.heap.size w (w.alloc (.cells #[.int .i64 0,.int .i64 0,.slice none 0 0] 136)):=(Below.refl _ _).alloc (Nat.le_refl _) _
 have fq0:(w.alloc (.cells #[.int .i64 0,.int .i64 0,.slice none 0 0] 136)).heap[w.heap.size]?=some (.cells #[.int .i64 0,.int .i64 0,.slice none 0 0] 136 (0,0)):=by have h:=World.alloc_heap_new w (.cells #[.int .i64 0,.int .i64 0,.slice none 0 0] 136);exact h
 generalize (w.alloc (.cells #[.int .i64 0,.int .i64 0,.slice none 0 0] 136))=W0 at fsz fB fq0 ⊢
 obtain ⟨y0,y1,y2,yl⟩:=c3_of fq0
 obtain ⟨yf0,yf1,yf2⟩:=f3_of fq0
 have Q0:=Lib.hid fq0
 have hsz:w.heap.size+1=W0.heap.size:=fsz.symm
 clear fsz fq0
 go_wp2_with fail
 have g3:=st3_q (x0 := .int .i64 8) (x1 := .int .i64 2) (x2 := .slice (some ⟨W0.heap.size,0,none⟩) 3 3) Q0.out
 have hb3:=st3_below (x0 := .int .i64 8) (x1 := .int .i64 2) (x2 := .slice (some ⟨W0.heap.size,0,none⟩) 3 3) (b:=w.heap.size) fB (Nat.le_refl _)
 have hs3:(((W0.setCell ⟨w.heap.size,0,none⟩ (.int .i64 8)).setCell ⟨w.heap.size,1,none⟩ (.int .i64 2)).setCell ⟨w.heap.size,2,none⟩ (.slice (some ⟨W0.heap.size,0,none⟩) 3 3)).heap.size=W0.heap.size:=by simp
 generalize (((W0.setCell ⟨w.heap.size,0,none⟩ (.int .i64 8)).setCell ⟨w.heap.size,1,none⟩ (.int .i64 2)).setCell ⟨w.heap.size,2,none⟩ (.slice (some ⟨W0.heap.size,0,none⟩) 3 3))=W3 at g3 hb3 hs3 ⊢
 have hA:=own_c3 W3 1 1 0 w.heap.size 3 (by omega)
 rw[hs3] at hA
 have hb4:=hb3.alloc (by omega) (.cells #[.int .i64 1,.int .i64 1,.int .i64 0] 3)
 have hbA:Below W3.heap.size W3 (W3.alloc (.cells #[.int .i64 1,.int .i64 1,.int .i64 0] 3)):=keep_alloc (Below.refl _ _) _
 obtain ⟨z0,z1,z2,zl⟩:=c3_of (keepq hbA g3)
 refine bodyPost_ret (v := .tuple #[.agg #[.int .i64 8,.int .i64 2,.slice (some ⟨W0.heap.size,0,none⟩) 3 3],.bool true]) ?_ rfl ⟨_,3,rfl,hA,hb4⟩
 simp[results,Tryz.f168,go_sem,z0,z1,z2]
theorem fof16_c (w:World):Calls Tryz.prog 168 #[.int .i64 16] w (FieldE w 16 2 [1,1,0,0] true):=by
 go_enter Tryz.func168,Tryz.ntmps168
 go_upto_region 1 with fail
 have fsz:(w.alloc (.cells #[.int .i64 0,.int .i64 0,.slice none 0 0] 136)).heap.size=w.heap.size+1:=by simp only[World.size_alloc]
 have fB:Below w.heap.size w (w.alloc (.cells #[.int .i64 0,.int .i64 0,.slice none 0 0] 136)):=(Below.refl _ _).alloc (Nat.le_refl _) _
 have fq0:(w.alloc (.cells #[.int .i64 0,.int .i64 0,.slice none 0 0] 136)).heap[w.heap.size]?=some (.cells #[.int .i64 0,.int .i64 0,.slice none 0 0] 136 (0,0)):=by have h:=World.alloc_heap_new w (.cells #[.int .i64 0,.int .i64 0,.slice none 0 0] 136);exact h
 generalize (w.alloc (.cells #[.int .i64 0,.int .i64 0,.slice none 0 0] 136))=W0 at fsz fB fq0 ⊢
 obtain ⟨y0,y1,y2,yl⟩:=c3_of fq0
 obtain ⟨yf0,yf1,yf2⟩:=f3_of fq0
 have Q0:=Lib.hid fq0
 have hsz:w.heap.size+1=W0.heap.size:=fsz.symm
 clear fsz fq0
 go_wp2_with fail
 have g3:=st3_q (x0 := .int .i64 16) (x1 := .int .i64 2) (x2 := .slice (some ⟨W0.heap.size,0,none⟩) 4 4) Q0.out
 have hb3:=st3_below (x0 := .int .i64 16) (x1 := .int .i64 2) (x2 := .slice (some ⟨W0.heap.size,0,none⟩) 4 4) (b:=w.heap.size) fB (Nat.le_refl _)
 have hs3:(((W0.setCell ⟨w.heap.size,0,none⟩ (.int .i64 16)).setCell ⟨w.heap.size,1,none⟩ (.int .i64 2)).setCell ⟨w.heap.size,2,none⟩ (.slice (some ⟨W0.heap.size,0,none⟩) 4 4)).heap.size=W0.heap.size:=by simp
 generalize (((W0.setCell ⟨w.heap.size,0,none⟩ (.int .i64 16)).setCell ⟨w.heap.size,1,none⟩ (.int .i64 2)).setCell ⟨w.heap.size,2,none⟩ (.slice (some ⟨W0.heap.size,0,none⟩) 4 4))=W3 at g3 hb3 hs3 ⊢
 have hA:=own_c4 W3 1 1 0 0 w.heap.size 3 (by omega)
 rw[hs3] at hA
 have hb4:=hb3.alloc (by omega) (.cells #[.int .i64 1,.int .i64 1,.int .i64 0,.int .i64 0] 3)
 have hbA:Below W3.heap.size W3 (W3.alloc (.cells #[.int .i64 1,.int .i64 1,.int .i64 0,.int .i64 0] 3)):=keep_alloc (Below.refl _ _) _
 obtain ⟨z0,z1,z2,zl⟩:=c3_of (keepq hbA g3)
 refine bodyPost_ret (v := .tuple #[.agg #[.int .i64 16,.int .i64 2,.slice (some ⟨W0.heap.size,0,none⟩) 4 4],.bool true]) ?_ rfl ⟨_,4,rfl,hA,hb4⟩
 simp[results,Tryz.f168,go_sem,z0,z1,z2]
theorem fof9_c (w:World):Calls Tryz.prog 168 #[.int .i64 9] w (FieldE w 9 3 [1,0] true):=by
 go_enter Tryz.func168,Tryz.ntmps168
 go_upto_region 1 with fail
 have fsz:(w.alloc (.cells #[.int .i64 0,.int .i64 0,.slice none 0 0] 136)).heap.size=w.heap.size+1:=by simp only[World.size_alloc]
 have fB:Below w.heap.size w (w.alloc (.cells #[.int .i64 0,.int .i64 0,.slice none 0 0] 136)):=(Below.refl _ _).alloc (Nat.le_refl _) _
 have fq0:(w.alloc (.cells #[.int .i64 0,.int .i64 0,.slice none 0 0] 136)).heap[w.heap.size]?=some (.cells #[.int .i64 0,.int .i64 0,.slice none 0 0] 136 (0,0)):=by have h:=World.alloc_heap_new w (.cells #[.int .i64 0,.int .i64 0,.slice none 0 0] 136);exact h
 generalize (w.alloc (.cells #[.int .i64 0,.int .i64 0,.slice none 0 0] 136))=W0 at fsz fB fq0 ⊢
 obtain ⟨y0,y1,y2,yl⟩:=c3_of fq0
 obtain ⟨yf0,yf1,yf2⟩:=f3_of fq0
 have Q0:=Lib.hid fq0
 have hsz:w.heap.size+1=W0.heap.size:=fsz.symm
 clear fsz fq0
 go_wp2_with fail
 have g3:=st3_q (x0 := .int .i64 9) (x1 := .int .i64 3) (x2 := .slice (some ⟨W0.heap.size,0,none⟩) 2 2) Q0.out
 have hb3:=st3_below (x0 := .int .i64 9) (x1 := .int .i64 3) (x2 := .slice (some ⟨W0.heap.size,0,none⟩) 2 2) (b:=w.heap.size) fB (Nat.le_refl _)
 have hs3:(((W0.setCell ⟨w.heap.size,0,none⟩ (.int .i64 9)).setCell ⟨w.heap.size,1,none⟩ (.int .i64 3)).setCell ⟨w.heap.size,2,none⟩ (.slice (some ⟨W0.heap.size,0,none⟩) 2 2)).heap.size=W0.heap.size:=by simp
 generalize (((W0.setCell ⟨w.heap.size,0,none⟩ (.int .i64 9)).setCell ⟨w.heap.size,1,none⟩ (.int .i64 3)).setCell ⟨w.heap.size,2,none⟩ (.slice (some ⟨W0.heap.size,0,none⟩) 2 2))=W3 at g3 hb3 hs3 ⊢
 have hA:=own_c2 W3 1 0 w.heap.size 3 (by omega)
 rw[hs3] at hA
 have hb4:=hb3.alloc (by omega) (.cells #[.int .i64 1,.int .i64 0] 3)
 have hbA:Below W3.heap.size W3 (W3.alloc (.cells #[.int .i64 1,.int .i64 0] 3)):=keep_alloc (Below.refl _ _) _
 obtain ⟨z0,z1,z2,zl⟩:=c3_of (keepq hbA g3)
 refine bodyPost_ret (v := .tuple #[.agg #[.int .i64 9,.int .i64 3,.slice (some ⟨W0.heap.size,0,none⟩) 2 2],.bool true]) ?_ rfl ⟨_,2,rfl,hA,hb4⟩
 simp[results,Tryz.f168,go_sem,z0,z1,z2]
theorem fofp_c (q:Nat) (w:World) (hq:q≤16) (h4:q≠4) (h8:q≠8) (h16:q≠16) (h9:q≠9):Calls Tryz.prog 168 #[.int .i64 (q:Int)] w (FieldE w q q [0] (primeB q)):=by
 have HP:=Lib.hid (fun W=>isprime2_c q W hq)
 generalize primeB q=R at HP ⊢
 have e4:((q:Int)==4)=false:=by simpa using (show ¬(q:Int)=4 by omega)
 have e8:((q:Int)==8)=false:=by simpa using (show ¬(q:Int)=8 by omega)
 have e16:((q:Int)==16)=false:=by simpa using (show ¬(q:Int)=16 by omega)
 have e9:((q:Int)==9)=false:=by simpa using (show ¬(q:Int)=9 by omega)
 go_enter Tryz.func168,Tryz.ntmps168
 go_upto_region 1 with fail
 have fsz:(w.alloc (.cells #[.int .i64 0,.int .i64 0,.slice none 0 0] 136)).heap.size=w.heap.size+1:=by simp only[World.size_alloc]
 have fB:Below w.heap.size w (w.alloc (.cells #[.int .i64 0,.int .i64 0,.slice none 0 0] 136)):=(Below.refl _ _).alloc (Nat.le_refl _) _
 have fq0:(w.alloc (.cells #[.int .i64 0,.int .i64 0,.slice none 0 0] 136)).heap[w.heap.size]?=some (.cells #[.int .i64 0,.int .i64 0,.slice none 0 0] 136 (0,0)):=by have h:=World.alloc_heap_new w (.cells #[.int .i64 0,.int .i64 0,.slice none 0 0] 136);exact h
 generalize (w.alloc (.cells #[.int .i64 0,.int .i64 0,.slice none 0 0] 136))=W0 at fsz fB fq0 ⊢
 have Q0:=Lib.hid fq0
 have hsz:w.heap.size+1=W0.heap.size:=fsz.symm
 clear fsz fq0
 go_wp2_with (first|(go_at_call 200;refine (HP.out _).mono ?_;rintro _ w5 ⟨rfl,hb5⟩;have g1:=keepq hb5 Q0.out;obtain ⟨y0,y1,y2,yl⟩:=c3_of g1;obtain ⟨yf0,yf1,yf2⟩:=f3_of g1)|fail)
 have g3:=st3_q (x0 := .int .i64 (q:Int)) (x1 := .int .i64 (q:Int)) (x2 := .slice (some ⟨w5.heap.size,0,none⟩) 1 1) g1
 have hb3:=st3_below (x0 := .int .i64 (q:Int)) (x1 := .int .i64 (q:Int)) (x2 := .slice (some ⟨w5.heap.size,0,none⟩) 1 1) (b:=w.heap.size) (keep_trans fB hb5) (Nat.le_refl _)
 have hs3:(((w5.setCell ⟨w.heap.size,0,none⟩ (.int .i64 (q:Int))).setCell ⟨w.heap.size,1,none⟩ (.int .i64 (q:Int))).setCell ⟨w.heap.size,2,none⟩ (.slice (some ⟨w5.heap.size,0,none⟩) 1 1)).heap.size=w5.heap.size:=by simp
 generalize (((w5.setCell ⟨w.heap.size,0,none⟩ (.int .i64 (q:Int))).setCell ⟨w.heap.size,1,none⟩ (.int .i64 (q:Int))).setCell ⟨w.heap.size,2,none⟩ (.slice (some ⟨w5.heap.size,0,none⟩) 1 1))=W3 at g3 hb3 hs3 ⊢
 have hs5:=hb5.size
 have hA:=own_c1 W3 0 w.heap.size 3 (by omega)
 rw[hs3] at hA
 have hb4:=hb3.alloc (by omega) (.cells #[.int .i64 0] 3)
 have hbA:Below W3.heap.size W3 (W3.alloc (.cells #[.int .i64 0] 3)):=keep_alloc (Below.refl _ _) _
 obtain ⟨z0,z1,z2,zl⟩:=c3_of (keepq hbA g3)
 refine bodyPost_ret (v := .tuple #[.agg #[.int .i64 (q:Int),.int .i64 (q:Int),.slice (some ⟨w5.heap.size,0,none⟩) 1 1],.bool R]) ?_ rfl ⟨_,1,rfl,hA,hb4⟩
 simp[results,Tryz.f168,go_sem,z0,z1,z2]
theorem fof_c (q:Nat) (w:World) (hq:q≤16):Calls Tryz.prog 168 #[.int .i64 (q:Int)] w (FieldE w q (fldP q) (fldZ q) (fldB q)):=by
 by_cases h4:q=4
 ·subst h4
  rw[show fldP 4=2 by decide,show fldB 4=true by decide]
  exact fof4_c w
 by_cases h8:q=8
 ·subst h8
  rw[show fldP 8=2 by decide,show fldB 8=true by decide]
  exact fof8_c w
 by_cases h16:q=16
 ·subst h16
  rw[show fldP 16=2 by decide,show fldB 16=true by decide]
  exact fof16_c w
 by_cases h9:q=9
 ·subst h9
  rw[show fldP 9=3 by decide,show fldB 9=true by decide]
  exact fof9_c w
 have h1:fldP q=q:=by unfold fldP;rw[if_neg (by omega),if_neg h9]
 have h2:fldZ q=[0]:=by unfold fldZ;rw[if_neg h4,if_neg h8,if_neg h16,if_neg h9]
 have h3:fldB q=primeB q:=by unfold fldB;rw[decide_eq_false h4,decide_eq_false h8,decide_eq_false h16,decide_eq_false h9];rfl
 rw[h1,h2,h3]
 exact fofp_c q w hq h4 h8 h16 h9
end
section
open Go Go.RowKit Go.Shelf
attribute [local go_sem] Oper.semAt_some
attribute [local go_sem] over_cell
def bkTo (zs:List Int) (k:Nat):List (Nat × Int):=(List.range k).map fun j=>(zs.length - 1 - j,zs[zs.length - 1 - j]?.getD 0)
theorem bkTo_succ (zs:List Int) (k:Nat):bkTo zs (k+1)=bkTo zs k++[(zs.length - 1 - k,zs[zs.length - 1 - k]?.getD 0)]:=by simp[bkTo,List.range_succ]
theorem bkTo_length (zs:List Int) (k:Nat):(bkTo zs k).length=k:=by simp[bkTo]
theorem bkTo_snd (zs:List Int):(bkTo zs zs.length).map Prod.snd=zs.reverse:=by
 apply List.ext_getElem
 ·simp[bkTo]
 ·intro i h1 h2
  have h3:i<zs.length:=by simpa [bkTo] using h1
  have h4:zs.length - 1 - i<zs.length:=by omega
  simp[bkTo,List.getElem_reverse,h4]
theorem bkTo_take (zs:List Int) {k:Nat} (hk:k≤zs.length):bkTo zs k=(bkTo zs zs.length).take k:=by
 apply List.ext_getElem
 ·simp[bkTo,hk]
 ·intro i h1 h2
  simp[bkTo]
def accB (p:Nat) (pre:List (Nat × Int)):Int:=pre.foldl (fun acc x=>acc*(p:Int)+x.2 % (p:Int)) 0
theorem accB_snoc (p:Nat) (pre:List (Nat × Int)) (x:Nat × Int):accB p (pre++[x])=accB p pre*(p:Int)+x.2 % (p:Int):=by simp[accB,List.foldl_append]
theorem accB_num {p:Nat} (hp:1≤p):∀pre:List (Nat × Int),∀acc:Int,∀k:Nat,0≤acc→acc<((p ^ k:Nat):Int)→0≤pre.foldl (fun acc x=>acc*(p:Int)+x.2 % (p:Int)) acc∧pre.foldl (fun acc x=>acc*(p:Int)+x.2 % (p:Int)) acc<((p ^ (k+pre.length):Nat):Int)
 | [],acc,k,h0,h1=>⟨h0,h1⟩
 | x :: pre,acc,k,h0,h1=>by
  have e1:=Int.emod_nonneg x.2 (show (p:Int)≠0 by omega)
  have e2:=Int.emod_lt_of_pos x.2 (show (0:Int)<(p:Int) by omega)
  have e3:0≤acc*(p:Int):=Int.mul_nonneg h0 (by omega)
  have e4:(acc+1)*(p:Int)≤((p ^ k:Nat):Int)*(p:Int):=Int.mul_le_mul_of_nonneg_right (by omega) (by omega)
  have e5:((p ^ (k+1):Nat):Int)=((p ^ k:Nat):Int)*(p:Int):=by rw[Nat.pow_succ,Int.natCast_mul]
  have e6:(acc+1)*(p:Int)=acc*(p:Int)+(p:Int):=by rw[Int.add_mul,Int.one_mul]
  have:=accB_num hp pre (acc*(p:Int)+x.2 % (p:Int)) (k+1) (by omega) (by rw[e5];omega)
  rw[List.foldl_cons,List.length_cons,show k+(pre.length+1)=k+1+pre.length by omega]
  exact this
theorem accB_all (p:Nat) (zs:List Int):accB p (bkTo zs zs.length)=elemL p zs:=by
 have h:accB p (bkTo zs zs.length)=((bkTo zs zs.length).map Prod.snd).foldl (fun (acc x:Int)=>acc*(p:Int)+x % (p:Int)) 0:=by unfold accB;rw[List.foldl_map]
 rw[h,bkTo_snd,List.foldl_reverse]
 rfl
def Kp2 (p q:Nat) (A B:World):Prop:=B.heap[p]?=A.heap[p]?∧B.heap[q]?=A.heap[q]?
theorem Kp2.refl {p q:Nat} {A:World}:Kp2 p q A A:=⟨rfl,rfl⟩
theorem Kp2.trans {p q:Nat} {A B C:World} (h:Kp2 p q A B) (k:Kp2 p q B C):Kp2 p q A C:=⟨k.1.trans h.1,k.2.trans h.2⟩
theorem Kp2.c1 {p q i:Nat} {A B:World} (h:Kp2 p q A B):B.cell? ⟨p,i,none⟩=A.cell? ⟨p,i,none⟩:=World.cell?_of_block h.1
theorem Kp2.c2 {p q i:Nat} {A B:World} (h:Kp2 p q A B):B.cell? ⟨q,i,none⟩=A.cell? ⟨q,i,none⟩:=World.cell?_of_block h.2
theorem bk1_in (F:Fence) (n:Nat) (h7:F.fn 216) (hro:F.round=none) (hn:1≤n) (l Bs b off len cap:Nat) (zs:List Int) (hzl:zs.length=len) (hreach:len*8≤140737488351232) (J Jx:List (Nat × Int)→World→Prop)
  (hY:∀pre x W,J pre W→pre.length<len→YieldAt F (n - 1) Tryz.prog l #[.int .i64 ((x.1:Nat):Int),.int .i64 x.2] W fun e W' =>
   (e = .returned (.bool true)∧J (pre++[x]) W'∧Kp2 Bs b W W')∨(e = .returned (.bool false)∧Jx (pre++[x]) W'))
  (W:World) (hBs:W.cell? ⟨Bs,0,none⟩=some (.slice (some ⟨b,off,none⟩) len cap)) (hc:∀j,j<len→W.cell? ⟨b,off+j,none⟩=some (.int .i64 (zs[j]?.getD 0))) (h0:J [] W) :
  CallsIn F n Tryz.prog 216 #[.func (.yield l) #[] #[],.pointer (some ⟨Bs,0,none⟩)] W fun e W'=>(∃v,e = .returned v) ∧
   ((∃ys,ys=bkTo zs len∧J ys W')∨(∃pre,(∃k,k≤len∧pre=bkTo zs k)∧Jx pre W')):=by
 have HZ:=Lib.hid hzl
 clear hzl
 refine callsIn_of_wp Tryz.func216 rfl h7 ?_ hro
 simp only[Tryz.ntmps216,List.size_toArray,List.length_cons,List.length_nil,Nat.reduceAdd,Nat.reduceSub,Array.replicate_succ,Array.replicate_zero,List.push_toArray,List.append_toArray,List.nil_append,List.cons_append]
 gi_wp2
 gi_loopw [3] (fun i wr=>∃k:Nat,k≤len∧i = .int .i64 ((len:Int) - 1 - (k:Int))∧J (bkTo zs k) wr∧Kp2 Bs b W wr)
  (fun i _=>(intOf i+1).toNat)
 case atStart=>exact ⟨0,Nat.zero_le _,by go_num,h0,Kp2.refl⟩
 case round =>
  obtain ⟨k,hk,rfl,hJs,hnx⟩:=hrel
  have hBx:wr.cell? ⟨Bs,0,none⟩=some (.slice (some ⟨b,off,none⟩) len cap):=hnx.c1.trans hBs
  by_cases hlt:k<len
  ·obtain ⟨m,hm⟩:∃m,m=len - 1 - k:=⟨_,rfl⟩
   have hmI:(len:Int) - 1 - (k:Int)=(m:Int):=by omega
   have hml:m<len:=by omega
   have hmIl:(m:Int)<(len:Int):=by omega
   have hcx:wr.cell? ⟨b,off+m,none⟩=some (.int .i64 (zs[m]?.getD 0)):=hnx.c2.trans (hc m hml)
   obtain ⟨fn,tmps,assign,body,hy,hR⟩:=hY _ (m,zs[m]?.getD 0) wr hJs (by rw[bkTo_length];exact hlt)
   have HBK:Hid (bkTo zs (k+1)=bkTo zs k++[(m,zs[m]?.getD 0)]):=by unfold Hid;rw[bkTo_succ,HZ.out,hm]
   rw[hmI]
   have HM:=Lib.hid hm
   clear hm hmI
   gi_wp2
   refine hR.mono ?_
   rintro e W3 (⟨rfl,hJ3,hk3⟩|⟨rfl,hJx3⟩)
   ·have hB3:=hk3.c1.trans hBx
    gi_wp2
    go_roundw
    case rel=>exact ⟨k+1,by omega,by have:=HM.out;go_num,by rw[HBK.out];exact hJ3,hnx.trans hk3⟩
    case measure=>simp[intOf] <;> omega
   ·gi_wp2
    refine bodyPost_ret (results_none rfl _ _ _) rfl ?_
    exact ⟨⟨_,rfl⟩,.inr ⟨_,⟨k+1,by omega,HBK.out.symm⟩,hJx3⟩⟩
  ·obtain rfl:k=len:=by omega
   gi_wp2
   go_end0
   exact ⟨⟨_,rfl⟩,.inl ⟨_,rfl,hJs⟩⟩
theorem bk_stops (F:Fence) (n:Nat) (h7:F.fn 216) (hro:F.round=none) (hn:1≤n) (Bs b off cap:Nat) (zs:List Int) (hreach:zs.length*8≤140737488351232) (w:World) (hBs:Bs<w.heap.size) (hb:b<w.heap.size)
  (hc:w.cell? ⟨Bs,0,none⟩=some (.slice (some ⟨b,off,none⟩) zs.length cap)) (hI:∀j,j<zs.length→w.cell? ⟨b,off+j,none⟩=some (.int .i64 (zs[j]?.getD 0))) :
  SeqStopsK F n Tryz.prog 216 #[.pointer (some ⟨Bs,0,none⟩)] (fun x:Nat × Int=>#[Value.int .i64 ((x.1:Nat):Int),.int .i64 x.2]) (Kp2 Bs b) (fun ys=>ys=bkTo zs zs.length) (fun pre=>pre <+: bkTo zs zs.length) zs.length w:=fun l J Jx W hW _ _ hY h0=>by
 have hc':=(hW.cell (p:=⟨Bs,0,none⟩) hBs).trans hc
 refine (bk1_in F n h7 hro hn l Bs b off zs.length cap zs rfl hreach J Jx hY W hc' (fun j hj=>(hW.cell (p:=⟨b,off+j,none⟩) hb).trans (hI j hj)) h0).mono ?_
 rintro e W' ⟨he,⟨ys,rfl,hj⟩|⟨pre,⟨k,hk,rfl⟩,hj⟩⟩
 ·exact ⟨he,.inl ⟨_,rfl,hj⟩⟩
 ·exact ⟨he,.inr ⟨_,by rw[bkTo_take zs hk];exact List.take_prefix _ _,hj⟩⟩
theorem own_cells {α:Type} (b:Nat) (cs:List α→Array Value) (T:TypeId):Go.Own (fun (pre:List α) (W:World)=>W.heap[b]?=some (.cells (cs pre) T (0,0))):=by
 rintro pre A B row hq hg hr
 exact (grownBy_keeps_cells hg hr hq rfl).trans hq
theorem back_c (a:Option Addr) (n c:Nat) (w:World):Calls Tryz.prog 201 #[.slice a n c] w fun e w'=>e = .returned (.func (.func 216) #[] #[.pointer (some ⟨w.heap.size,0,none⟩)])∧w'=w.alloc (.cells #[.slice a n c] 22):=by
 go_enter Tryz.func201,Tryz.ntmps201
 go_wp2_with fail
 refine bodyPost_ret (v := .func (.func 216) #[] #[.pointer (some ⟨w.heap.size,0,none⟩)]) ?_ rfl ⟨rfl,rfl⟩
 simp[results,Tryz.f201,go_sem]
def ElI (b0 b1:Nat) (q p:Nat) (vz:Value) (pre:List (Nat × Int)) (W:World):Prop :=
 W.heap[b0]?=some (.cells #[.int .i64 (q:Int),.int .i64 (p:Int),vz] 136 (0,0))∧W.heap[b1]?=some (.cells #[.int .i64 (accB p pre)] 3 (0,0))
theorem elem_c (q p:Nat) (vz:Value) (a:Option Addr) (n c:Nat) (zs:List Int) (w:World) (h:IC w a n zs) (hn1:1≤n) (hp1:1≤p) (hp2:p≤16) (hpow:p ^ n≤65536) (hn2:n≤100000) :
  Calls Tryz.prog 170 #[.agg #[.int .i64 (q:Int),.int .i64 (p:Int),vz],.slice a n c] w fun e w'=>e = .returned (.int .i64 (elemL p zs))∧Below w.heap.size w w':=by
 obtain ⟨b,off,ha,hbl,_⟩:=h.2 0 (by omega)
 have hzl:zs.length=n:=h.len
 have hI:∀j,j<n→w.cell? ⟨b,off+j,none⟩=some (.int .i64 (zs[j]?.getD 0)):=fun j hj=>by
  obtain ⟨b2,off2,ha2,_,h2⟩:=h.2 j hj
  rw[ha] at ha2
  cases ha2
  exact h2
 subst ha
 obtain ⟨E,hE⟩:∃E,E=elemL p zs:=⟨_,rfl⟩
 rw[← hE]
 have HE:=Lib.hid hE
 have HI:=Lib.hid hI
 have HZ:=Lib.hid hzl
 have HP:=Lib.hid hpow
 clear hI h hE hzl hpow
 refine calls_of_marks Tryz.func170 rfl ?_
 simp only[Tryz.ntmps170,List.size_toArray,List.length_cons,List.length_nil,Nat.reduceAdd,Nat.reduceSub,Array.replicate_succ,Array.replicate_zero,List.push_toArray,List.append_toArray,List.nil_append,List.cons_append]
 go_upto_region 2 with fail
 have fsz:((w.alloc (.cells #[.int .i64 (q:Int),.int .i64 (p:Int),vz] 136)).alloc (.cells #[.int .i64 0] 3)).heap.size=w.heap.size+2:=by simp only[World.size_alloc] <;> omega
 have fB:Below w.heap.size w ((w.alloc (.cells #[.int .i64 (q:Int),.int .i64 (p:Int),vz] 136)).alloc (.cells #[.int .i64 0] 3)):=((Below.refl _ _).alloc (Nat.le_refl _) _).alloc (by simp only[World.size_alloc];omega) _
 have fq0:((w.alloc (.cells #[.int .i64 (q:Int),.int .i64 (p:Int),vz] 136)).alloc (.cells #[.int .i64 0] 3)).heap[w.heap.size]?=some (.cells #[.int .i64 (q:Int),.int .i64 (p:Int),vz] 136 (0,0)):=by have h:=World.alloc_heap_new w (.cells #[.int .i64 (q:Int),.int .i64 (p:Int),vz] 136);exact (Below.heap_alloc _ _ _ (by simp only[World.size_alloc];omega)).trans (h)
 have fq1:((w.alloc (.cells #[.int .i64 (q:Int),.int .i64 (p:Int),vz] 136)).alloc (.cells #[.int .i64 0] 3)).heap[w.heap.size+1]?=some (.cells #[.int .i64 0] 3 (0,0)):=by have h:=World.alloc_heap_new (w.alloc (.cells #[.int .i64 (q:Int),.int .i64 (p:Int),vz] 136)) (.cells #[.int .i64 0] 3);simp only[World.size_alloc] at h;exact h
 generalize ((w.alloc (.cells #[.int .i64 (q:Int),.int .i64 (p:Int),vz] 136)).alloc (.cells #[.int .i64 0] 3))=W0 at fsz fB fq0 fq1 ⊢
 have FB:=Lib.hid fB
 have Q0:=Lib.hid fq0
 have Q1:=Lib.hid fq1
 have hsz:w.heap.size+2=W0.heap.size:=fsz.symm
 clear fB fq0 fq1 fsz
 go_wp2_with (first|(go_at_call 201;refine (back_c _ _ _ _).mono ?_;rintro _ w1 ⟨rfl,rfl⟩)|fail)
 refine (wpIn_wide (n:=6)).1 ?_
 have hbW:b<W0.heap.size:=by omega
 have hBA:Below W0.heap.size W0 (W0.alloc (.cells #[.slice (some ⟨b,off,none⟩) n c] 22)):=keep_alloc (Below.refl _ _) _
 have hBS:(W0.alloc (.cells #[.slice (some ⟨b,off,none⟩) n c] 22)).heap.size=W0.heap.size+1:=by simp
 have hBQ:(W0.alloc (.cells #[.slice (some ⟨b,off,none⟩) n c] 22)).heap[W0.heap.size]?=some (.cells #[.slice (some ⟨b,off,none⟩) n c] 22 (0,0)):=World.alloc_heap_new _ _
 refine wpIn_rangeFunc_ownG (F:=Fence.wide) (n:=6) rfl (by omega) (gf:=216) (lb:=#[.pointer (some ⟨W0.heap.size,0,none⟩)]) rfl trivial (enters_of Tryz.func216 (by kernel_rfl) rfl)
  (bk_stops Fence.wide (6 - 1) trivial rfl (by omega) W0.heap.size b off c zs (by rw[HZ.out];omega) (W0.alloc (.cells #[.slice (some ⟨b,off,none⟩) n c] 22)) (by rw[hBS];omega) (by rw[hBS];omega) (by rw[HZ.out];exact q_cell hBQ 0) (fun j hj=>(hBA.cell (p:=⟨b,off+j,none⟩) hbW).trans ((FB.out.cell (p:=⟨b,off+j,none⟩) hbl).trans (HI.out j (by have:=HZ.out;omega)))))
  (fun h k=>h.trans k) (fun W l _ _ hl _ _ _=>⟨World.putObj_heap_other (by rw[hBS] at hl;omega),World.putObj_heap_other (by rw[hBS] at hl;omega)⟩) (Below.refl _ _) (fun _=>rfl)
  (fun pre W=>ElI w.heap.size (w.heap.size+1) q p vz pre W∧Below w.heap.size w W) (fun _ _ _=>False)
  (OwnFrom.and (Go.Own.from (fun pre A B row h hg hr=>⟨own_cells (α:=Nat × Int) w.heap.size (fun _=>#[.int .i64 (q:Int),.int .i64 (p:Int),vz]) _ pre A B row h.1 hg hr,own_cells (α:=Nat × Int) (w.heap.size+1) (fun pre=>#[.int .i64 (accB p pre)]) _ pre A B row h.2 hg hr⟩) _) (ownFrom_below (Nat.le_refl _) (by simp;omega)))
  (fun _ _ _ _ _ hs _ _=>hs) ⟨⟨keepq hBA Q0.out,keepq hBA Q1.out⟩,keep_trans FB.out hBA⟩ ?act ?assign ?body ?done ?stop
 case assign =>
  intro l x W K hK
  gi_wp2
  exact hK
 case body =>
  rintro l pre x W ⟨⟨hq0,hq1⟩,hB⟩ hlt
  obtain ⟨x0,x1,x2,xl⟩:=c3_of hq0
  obtain ⟨y0,yf,yl⟩:=c1_of hq1
  have hnum:=accB_num hp1 pre 0 0 (by omega) (by simp)
  rw[Nat.zero_add] at hnum
  have hpk:p ^ (pre.length+1)≤65536:=Nat.le_trans (Nat.pow_le_pow_right hp1 (by have:=HZ.out;omega)) HP.out
  have hpk2:p ^ pre.length≤65536:=Nat.le_trans (Nat.pow_le_pow_right hp1 (by omega)) hpk
  have HAC:=Lib.hid (accB_snoc p pre x)
  have hacc:0≤accB p pre∧accB p pre<65536:=⟨hnum.1,by have:=hnum.2;unfold accB;omega⟩
  have HQ0:=Lib.hid hq0
  have HQ1:=Lib.hid hq1
  clear hq0 hq1 hnum hpk hpk2
  generalize accB p pre=acc at HAC y0 HQ1 hacc
  have hr1:=Int.emod_nonneg x.2 (show (p:Int)≠0 by omega)
  have hr2:=Int.emod_lt_of_pos x.2 (show (0:Int)<(p:Int) by omega)
  have HM:=Lib.hid (fun W=>modulo_c x.2 p W hp1 (by omega))
  obtain ⟨r,hr⟩:∃r,r=x.2 % (p:Int):=⟨_,rfl⟩
  rw[← hr] at HM HAC hr1 hr2
  clear hr
  have hprod:0≤acc*(p:Int)∧acc*(p:Int)≤65536*16:=⟨Int.mul_nonneg hacc.1 (by omega),Int.le_trans (Int.mul_le_mul_of_nonneg_right (show acc≤65536 by omega) (by omega)) (Int.mul_le_mul_of_nonneg_left (show (p:Int)≤16 by omega) (by omega))⟩
  have HMU:=Lib.hid (rfl:acc*(p:Int)=acc*(p:Int))
  obtain ⟨m,hm⟩:∃m,acc*(p:Int)=m:=⟨_,rfl⟩
  rw[hm] at HAC hprod
  have HB:=Lib.hid hB
  gi_wp2_with fail
  refine wpIn_region_S (fun w'=>∃u,w'=over (W) u) [9] [(0,0),(0,1),(0,2),(0,3),(0,4),(0,5),(0,6),(1,7),(0,8),(2,9)] (by kernel_rfl) (by kernel_rfl) (by kernel_rfl) (fun _ _ h=>h) (by exact ⟨_,below_over (by repeat (first|assumption|exact Below.refl _ _|refine keep_drew ?_|refine keep_alloc ?_ _|refine keep_trans ?_ (by assumption)))⟩) ?_
  dsimp only[pickOps,nthOp]
  repeat (first|(refine wpS_skip rfl (fun K hK=>?_);go_big_quiet_op;refine hK _ ?_;clear hK K)|(refine wpS_quiet rfl rfl (fun K hK=>?_);go_big_quiet_op;refine hK _ ?_;clear hK K)|(refine wpS_loud ?_;go_wp2_with (first|(go_at_call 123;refine (HM.out _).mono ?_;rintro _ w2 ⟨rfl,rfl⟩)|fail);refine ⟨?_,?_⟩;focus (exact ⟨_,below_over (by repeat (first|assumption|exact Below.refl _ _|refine keep_drew ?_|refine keep_alloc ?_ _|refine keep_trans ?_ (by assumption)))⟩)))
  refine wpS_late _ _ _ rfl ?_
  dsimp only[List.map]
  go_wp2_with (first|(go_at_call 123;refine (HM.out _).mono ?_;rintro _ w2 ⟨rfl,rfl⟩)|fail)
  refine NoPanic.normal ?_
  have kb:=KeepsOthers.setCell W ⟨w.heap.size+1,0,none⟩ (.int .i64 (m+r))
  have e0:=q_other (i:=0) HQ0.out (show w.heap.size≠w.heap.size+1 by omega) (.int .i64 (m+r))
  have e1:=q_set (i:=0) HQ1.out (.int .i64 (m+r))
  have e2:(W.setCell ⟨w.heap.size+1,0,none⟩ (.int .i64 (m+r))).heap[W0.heap.size]?=W.heap[W0.heap.size]?:=Below.heap_setCell _ _ _ _ (by show W0.heap.size≠w.heap.size+1;omega)
  have e3:(W.setCell ⟨w.heap.size+1,0,none⟩ (.int .i64 (m+r))).heap[b]?=W.heap[b]?:=Below.heap_setCell _ _ _ _ (by show b≠w.heap.size+1;omega)
  have e4:=(HB.out.setCell (p:=⟨w.heap.size+1,0,none⟩) (by show w.heap.size≤w.heap.size+1;omega) (.int .i64 (m+r))).drew
  exact ⟨⟨kb.size,fun k o _ hk ho=>kb.same k o hk ho⟩,⟨e2,e3⟩,⟨e0,by rw[HAC.out];exact e1⟩,e4⟩
 case done =>
  rintro D ys W hD rfl ⟨⟨hq0,hq1⟩,hB⟩ hK
  obtain ⟨y0,yf,yl⟩:=c1_of hq1
  rw[accB_all,← HE.out] at y0
  have HB:=Lib.hid hB
  clear hq0 hq1 hB
  go_wp2_with fail
  refine marks_one (v := .int .i64 E) hK rfl (by simp[results,Tryz.f170,go_sem]) ⟨rfl,putD_below HB.out (by simp only[World.size_alloc] at hD;omega)⟩
 case stop =>
  rintro D c pre W _ _ h _
  exact h.elim
end
section
open Go Go.RowKit
attribute [local go_sem] over_cell
attribute [local go_sem] Oper.semAt_some
theorem infoStr:(Tryz.prog.info? 9).map (fun i=>(i.zero,i.size,i.bytes))=some (some (.string ⟨#[]⟩),1,16):=by kernel_rfl
def kS0:ByteArray:=⟨#[114,101,100,117,99,101,100]⟩
def kS1:ByteArray:=⟨#[115,121,109,109,101,116,114,105,99]⟩
def kS2:ByteArray:=⟨#[105,100,101,109,112,111,116,101,110,116]⟩
def kS3:ByteArray:=⟨#[117,110,105,112,111,116,101,110,116]⟩
def kS4:ByteArray:=⟨#[100,105,97,103,111,110,97,108]⟩
def kS5:ByteArray:=⟨#[112,97,110,100,105,97,103,111,110,97,108]⟩
def kS6:ByteArray:=⟨#[103,114,111,117,112]⟩
def kStr (i:Nat):ByteArray:=[kS0,kS1,kS2,kS3,kS4,kS5,kS6][i]?.getD ⟨#[]⟩
def kFn (i:Nat):Nat:=[176,178,181,183,185,189,193][i]?.getD 0
def kCells:Array Value:=#[.string kS0,.func (.func 176) #[] #[],.string kS1,.func (.func 178) #[] #[],.string kS2,.func (.func 181) #[] #[],.string kS3,.func (.func 183) #[] #[],.string kS4,.func (.func 185) #[] #[],.string kS5,.func (.func 189) #[] #[],.string kS6,.func (.func 193) #[] #[]]
def kNames (n:Nat) (cs:List Int) (m:Nat):List ByteArray:=(kindTo n cs m).map kStr
theorem enterK (i:Nat) (hi:i<7):∀args w,Sem.run Tryz.prog (callFunc (kFn i) args) w = .ok (.enter (kFn i) args) w:=by
 match i,hi with
 | 0,_=>intro args w;kernel_rfl
 | 1,_=>intro args w;kernel_rfl
 | 2,_=>intro args w;kernel_rfl
 | 3,_=>intro args w;kernel_rfl
 | 4,_=>intro args w;kernel_rfl
 | 5,_=>intro args w;kernel_rfl
 | 6,_=>intro args w;kernel_rfl
theorem k_cells {W:World} {b:Nat} {T:TypeId} (h:W.heap[b]?=some (.cells kCells T (0,0))) {i:Nat} (hi:i<7):W.cell? ⟨b,i*2,none⟩=some (.string (kStr i))∧W.cell? ⟨b,i*2+1,none⟩=some (.func (.func (kFn i)) #[] #[]):=by
 match i,hi with
 | 0,_=>exact ⟨q_cell h 0,q_cell h 1⟩
 | 1,_=>exact ⟨q_cell h 2,q_cell h 3⟩
 | 2,_=>exact ⟨q_cell h 4,q_cell h 5⟩
 | 3,_=>exact ⟨q_cell h 6,q_cell h 7⟩
 | 4,_=>exact ⟨q_cell h 8,q_cell h 9⟩
 | 5,_=>exact ⟨q_cell h 10,q_cell h 11⟩
 | 6,_=>exact ⟨q_cell h 12,q_cell h 13⟩
theorem kinds_c (w:World):Calls Tryz.prog 144 #[] w fun e w'=>e = .returned (.slice (some ⟨w.heap.size,0,none⟩) 7 7)∧w'=w.alloc (.cells kCells 146):=by
 go_enter Tryz.func144,Tryz.ntmps144
 go_wp2_with fail
 refine bodyPost_ret (v := .slice (some ⟨w.heap.size,0,none⟩) 7 7) ?_ rfl ⟨rfl,rfl⟩
 simp[results,Tryz.f144,go_sem]
theorem kall_c (N:Nat) (a:Option Addr) (m c:Nat) (cs:List Int) (i:Nat) (hi:i<7) (w:World) (h:IC w a m cs) (hcap:m≤c) (L:Latin N cs) :
  Calls Tryz.prog (kFn i) #[.agg #[.int .i64 (N:Int),.int .i64 (N:Int),.slice a m c]] w fun e w'=>e = .returned (.bool ((kindsB N cs)[i]?.getD false))∧Below w.heap.size w w':=by
 match i,hi with
 | 0,_=>exact k1_c N a m c cs w h hcap L
 | 1,_=>exact k2_c N a m c cs w h L
 | 2,_=>exact k3_c N a m c cs w h L
 | 3,_=>exact k4_c N a m c cs w h L
 | 4,_=>exact k5_c N a m c cs w h L
 | 5,_=>exact k6_c N a m c cs w h L
 | 6,_=>exact kg_c N a m c cs w h hcap L
def KindsE (w:World) (l:List ByteArray) (er:Int) (e:Ending) (w':World):Prop :=
 ∃a c,e = .returned (.tuple #[.slice a l.length c,.int .i64 er])∧w'.ownsRow w.heap.size 9 1 (.slice a l.length c) l.length (l.map Value.string)∧Below w.heap.size w w'
def kiL (r C:Int) (cs:List Int):List ByteArray:=if sqE 0 r C cs=0 then kNames r.toNat cs 7 else []
end
section
open Go Go.RowKit
structure OI (W:World) (B g n cap:Nat) (xs:List Int):Prop where
 len:xs.length=n
 own:W.ownsRow B 3 1 (.slice (some ⟨g,0,none⟩) n cap) n (xs.map (Value.int .i64))
theorem OI.at {W:World} {B g n cap:Nat} {xs:List Int} (h:OI W B g n cap xs) {k:Nat} (hk:k<n):W.cell? ⟨g,k,none⟩=some (.int .i64 (xs[k]?.getD 0))∧W.frozen? ⟨g,k,none⟩=false∧g<W.heap.size:=by
 obtain ⟨g2,cap2,x,hv,hx,hc,hf,hl,_⟩:=owns_free h.own k hk
 simp only[Value.slice.injEq,Option.some.injEq,Addr.mk.injEq,and_true,true_and] at hv
 obtain ⟨rfl,_⟩:=hv
 have hlt:k<xs.length:=by rw[h.len];exact hk
 rw[List.getElem?_map,List.getElem?_eq_getElem hlt] at hx
 rw[List.getElem?_eq_getElem hlt]
 cases hx
 exact ⟨hc,hf,hl⟩
theorem OI.blk {W:World} {B g n cap:Nat} {xs:List Int} (h:OI W B g n cap xs):B≤g∧g<W.heap.size:=h.own.lt g rfl
theorem OI.set {W:World} {B g n cap:Nat} {xs:List Int} (h:OI W B g n cap xs) (k:Nat) (x:Int):OI (W.setCell ⟨g,k,none⟩ (.int .i64 x)) B g n cap (xs.set k x) :=
 ⟨by rw[List.length_set];exact h.len,by rw[List.map_set];exact owns_set h.own k _⟩
theorem OI.keep {W W':World} {B g n cap:Nat} {xs:List Int} (h:OI W B g n cap xs) (hb:Below W.heap.size W W'):OI W' B g n cap xs:=⟨h.len,owns_keep h.own (fun k _ hl=>hb.block k hl)⟩
theorem OI.drew {W:World} {B g n cap:Nat} {xs:List Int} (h:OI W B g n cap xs):OI W.drew B g n cap xs:=h.keep (Below.refl _ _).drew
theorem OI.base {W:World} {B B' g n cap:Nat} {xs:List Int} (h:OI W B g n cap xs) (hb:B'≤B):OI W B' g n cap xs:=⟨h.len,owns_base h.own hb⟩
theorem OI.other {W:World} {B g n cap b i:Nat} {xs:List Int} (h:OI W B g n cap xs) (hne:g≠b) (u:Value):OI (W.setCell ⟨b,i,none⟩ u) B g n cap xs :=
 ⟨h.len,ownsRow_setCell_other h.own (a:=⟨b,i,none⟩) (fun e=>hne (by cases e;rfl)) u⟩
theorem OI.ic {W:World} {B g n cap:Nat} {xs:List Int} (h:OI W B g n cap xs) (hn:n≤17592186044416):IC W (some ⟨g,0,none⟩) n xs :=
 ⟨⟨h.len,hn⟩,fun k hk=>⟨g,0,rfl,h.blk.2,by rw[Nat.zero_add];exact (h.at hk).1⟩⟩
theorem OI.of {W:World} {B n c:Nat} {a:Option Addr} {xs:List Int} (hown:W.ownsRow B 3 1 (.slice a n c) n (xs.map (Value.int .i64))) (hn:1≤n):∃g,a=some ⟨g,0,none⟩∧OI W B g n c xs:=by
 obtain ⟨g,cap,x,hv,_⟩:=owns_free hown 0 (by omega)
 simp only[Value.slice.injEq,true_and] at hv
 obtain ⟨rfl,rfl⟩:=hv
 exact ⟨g,rfl,by have:=hown.1;rw[List.length_map] at this;omega,hown⟩
theorem set_cell_block {W:World} {g k b:Nat} {u:Value} (h:b≠g):(W.setCell ⟨g,k,none⟩ u).heap[b]?=W.heap[b]?:=Below.heap_setCell _ _ _ _ h
theorem IC.set_other {W:World} {a:Option Addr} {n g k:Nat} {xs:List Int} {u:Value} (h:IC W a n xs) (hne:∀b off,a=some ⟨b,off,none⟩→b≠g):IC (W.setCell ⟨g,k,none⟩ u) a n xs :=
 ⟨h.1,fun j hj=>by
  obtain ⟨b,off,e,hl,hc⟩:=h.2 j hj
  exact ⟨b,off,e,by simpa using hl,(World.cell?_of_block (set_cell_block (hne b off e))).trans hc⟩⟩
end
section
open Go Go.RowKit
attribute [local go_sem] over_cell
attribute [local go_sem] Oper.semAt_some
def addTo (a b:List Int) (k:Nat):List Int:=(List.range a.length).map fun i=>if i<k then a[i]?.getD 0+b[i]?.getD 0 else a[i]?.getD 0
theorem addTo_zero (a b:List Int):addTo a b 0=a:=by
 unfold addTo
 apply List.ext_getElem
 ·simp
 ·intro i h1 h2
  simp[h2]
theorem addTo_all (a b:List Int):addTo a b a.length=sumL a b:=by
 unfold addTo sumL
 apply List.map_congr_left
 intro i hi
 rw[if_pos (List.mem_range.1 hi)]
theorem addTo_get (a b:List Int) {k:Nat} (hk:k<a.length):(addTo a b k)[k]?.getD 0=a[k]?.getD 0:=by simp[addTo,hk]
theorem addTo_succ (a b:List Int) (k:Nat):(addTo a b k).set k (a[k]?.getD 0+b[k]?.getD 0)=addTo a b (k+1):=by
 apply List.ext_getElem
 ·simp[addTo]
 ·intro i h1 h2
  rw[List.getElem_set]
  simp only[addTo,List.getElem_map,List.getElem_range]
  by_cases e:k=i
  ·subst e;simp
  ·rw[if_neg e]
   by_cases e2:i<k
   ·rw[if_pos e2,if_pos (by omega)]
   ·rw[if_neg e2,if_neg (by omega)]
theorem fadd_c (q x y:Nat) (hq:q≤16) (hf:fldB q=true) (hx:x≤1000) (hy:y≤1000) (az:Option Addr) (cz:Nat) (w:World) :
  Calls Tryz.prog 131 #[.agg #[.int .i64 (q:Int),.int .i64 (fldP q:Int),.slice az (fldZ q).length cz],.int .i64 (x:Int),.int .i64 (y:Int)] w fun e w'=>e = .returned (.int .i64 (fAdd q x y))∧Below w.heap.size w w':=by
 obtain ⟨hpw,hp1,hp2,hn1,hn2⟩:=fld_pow hq hf
 have hD:fAdd q x y=elemL (fldP q) (sumL (dgtL (fldP q) (fldZ q).length x) (dgtL (fldP q) (fldZ q).length y)):=rfl
 have hal:=dgtL_len (fldP q) (fldZ q).length x
 have hbl:=dgtL_len (fldP q) (fldZ q).length y
 have hna:=fun i=>dgtL_num (fldP q) (by omega) (fldZ q).length x i
 have hnb:=fun i=>dgtL_num (fldP q) (by omega) (fldZ q).length y i
 have H1:=Lib.hid (fun W=>ldig_c q (fldP q) x az (fldZ q).length cz W hp1 hp2 (by omega) (by omega))
 have H2:=Lib.hid (fun W=>ldig_c q (fldP q) y az (fldZ q).length cz W hp1 hp2 (by omega) (by omega))
 have hpw2:fldP q ^ (fldZ q).length≤65536:=by omega
 generalize fAdd q x y=R at hD ⊢
 generalize dgtL (fldP q) (fldZ q).length x=A at hD hal hna H1
 generalize dgtL (fldP q) (fldZ q).length y=B at hD hbl hnb H2
 generalize (fldZ q).length=n at *
 generalize fldP q=p at *
 have HNA:=Lib.hid hna
 have HNB:=Lib.hid hnb
 have HD:=Lib.hid hD
 have HAL:=Lib.hid hal
 have HBL:=Lib.hid hbl
 have HPW:=Lib.hid hpw2
 clear hpw hD hal hbl hna hnb hpw2 hf
 go_enter Tryz.func131,Tryz.ntmps131
 go_upto_region 1 with fail
 have fsz:(w.alloc (.cells #[.int .i64 (q:Int),.int .i64 (p:Int),.slice az n cz] 136)).heap.size=w.heap.size+1:=by simp only[World.size_alloc]
 have fB:Below w.heap.size w (w.alloc (.cells #[.int .i64 (q:Int),.int .i64 (p:Int),.slice az n cz] 136)):=(Below.refl _ _).alloc (Nat.le_refl _) _
 have fq0:(w.alloc (.cells #[.int .i64 (q:Int),.int .i64 (p:Int),.slice az n cz] 136)).heap[w.heap.size]?=some (.cells #[.int .i64 (q:Int),.int .i64 (p:Int),.slice az n cz] 136 (0,0)):=by have h:=World.alloc_heap_new w (.cells #[.int .i64 (q:Int),.int .i64 (p:Int),.slice az n cz] 136);exact h
 generalize (w.alloc (.cells #[.int .i64 (q:Int),.int .i64 (p:Int),.slice az n cz] 136))=W0 at fsz fB fq0 ⊢
 have FB:=Lib.hid fB
 have Q0:=Lib.hid fq0
 obtain ⟨x0,x1,x2,xl⟩:=c3_of fq0
 have hsz:w.heap.size+1=W0.heap.size:=fsz.symm
 clear fq0 fsz fB
 refine wp_region_S (fun w'=>∃u,w'=over (W0) u) [7,6,5] [(0,0),(0,1),(0,3),(0,4),(1,2),(2,5),(2,6),(2,7)] (by kernel_rfl) (by kernel_rfl) (by exact ⟨_,below_over (by repeat (first|assumption|exact Below.refl _ _|refine keep_drew ?_|refine keep_alloc ?_ _|refine keep_trans ?_ (by assumption)))⟩) ?_
 dsimp only[pickOps,nthOp]
 repeat (first|(refine wpS_skip rfl (fun K hK=>?_);go_big_quiet_op;refine hK _ ?_;clear hK K)|(refine wpS_quiet rfl rfl (fun K hK=>?_);go_big_quiet_op;refine hK _ ?_;clear hK K)|(refine wpS_loud ?_;go_wp2_with (first|(go_at_call 169;with_reducible refine (H1.out _).mono ?_;rintro _ w1 ⟨a1,c1,rfl,hown1,hb1⟩)|(go_at_call 169;with_reducible refine (H2.out _).mono ?_;rintro _ w2 ⟨a2,c2,rfl,hown2,hb2⟩)|fail);refine ⟨?_,?_⟩;focus (exact ⟨_,below_over (by repeat (first|assumption|exact Below.refl _ _|refine keep_drew ?_|refine keep_alloc ?_ _|refine keep_trans ?_ (by assumption)))⟩)))
 refine wpS_late _ _ _ rfl ?_
 dsimp only[List.map]
 go_wp2_with (first|(go_at_call 169;with_reducible refine (H1.out _).mono ?_;rintro _ w1 ⟨a1,c1,rfl,hown1,hb1⟩)|(go_at_call 169;with_reducible refine (H2.out _).mono ?_;rintro _ w2 ⟨a2,c2,rfl,hown2,hb2⟩)|fail)
 refine NoPanic.normal ?_
 have hW2:Below W0.heap.size W0 w2:=by (repeat (first|assumption|exact Below.refl _ _|refine keep_drew ?_|refine keep_alloc ?_ _|refine keep_trans ?_ (by assumption)))
 have hW1:Below W0.heap.size W0 w1:=by (repeat (first|assumption|exact Below.refl _ _|refine keep_drew ?_|refine keep_alloc ?_ _|refine keep_trans ?_ (by assumption)))
 obtain ⟨ga,rfl,OA⟩:=OI.of hown1 hn1
 obtain ⟨gb,rfl,OB⟩:=OI.of hown2 hn1
 have hga:=OA.blk
 have hgb:=OB.blk
 have OA2:=(OA.keep hb2).base (show W0.heap.size≤W0.drew.heap.size by simp)
 have OB2:=OB.base hW1.size
 have hs1:=hW1.size
 have hs0:W0.heap.size≤ga:=OA2.blk.1
 have hab:ga<gb:=Nat.lt_of_lt_of_le hga.2 hgb.1
 have q2:=keepq hW2 Q0.out
 have hB2:=keep_trans FB.out hW2
 clear hown1 hown2 hb1 hb2 OA OB hga hgb hW1 hs1 x0 x1 x2 xl
 go_wp2_with fail
 go_loopw [9,18] (fun _ s18 wr=>∃k:Nat,k≤n∧s18 = .int .i64 (k:Int)∧Hid (OI wr W0.heap.size ga n c1 (addTo A B k))∧Hid (OI wr W0.heap.size gb n c2 B)∧Hid (wr.heap[w.heap.size]?=some (.cells #[.int .i64 (q:Int),.int .i64 (p:Int),.slice az n cz] 136 (0,0)))∧Hid (Below w.heap.size w wr)) (fun _ s18 _=>n - (intOf s18).toNat)
 case atStart=>exact ⟨0,by omega,rfl,by rw[addTo_zero];exact OA2,OB2,q2,hB2⟩
 case round =>
  obtain ⟨k,hk,rfl,hA,hB,hQ,hBe⟩:=hrel
  by_cases hlt:k<n
  ·have hki:(k:Int)<(n:Int):=by omega
   obtain ⟨u0,u1,u2⟩:=hA.out.at hlt
   obtain ⟨v0,v1,v2⟩:=hB.out.at hlt
   rw[addTo_get A B (by rw[HAL.out];exact hlt)] at u0
   have nA:=HNA.out k
   have nB:=HNB.out k
   have HS:=Lib.hid (addTo_succ A B k)
   generalize A[k]?.getD 0=av at u0 nA HS
   generalize B[k]?.getD 0=bv at v0 nB HS
   have k1:=Lib.hid (hA.out.set k (av+bv))
   have k2:=Lib.hid (hB.out.other (i:=k) (b:=ga) (by omega) (.int .i64 (av+bv)))
   have k3:=Lib.hid (q_other (i:=k) hQ.out (show w.heap.size≠ga by omega) (.int .i64 (av+bv)))
   have k4:=Lib.hid (hBe.out.setCell (p:=⟨ga,k,none⟩) (show w.heap.size≤ga by omega) (.int .i64 (av+bv)))
   rw[HS.out] at k1
   go_wp2_with fail
   refine wp_region_S (fun w'=>∃u,w'=over (wr) u) [10] [(0,0),(0,1),(0,2),(0,3),(0,4),(0,5),(0,6),(0,7),(0,8),(0,9),(2,10)] (by kernel_rfl) (by kernel_rfl) (by exact ⟨_,below_over (by repeat (first|assumption|exact Below.refl _ _|refine keep_drew ?_|refine keep_alloc ?_ _|refine keep_trans ?_ (by assumption)))⟩) ?_
   dsimp only[pickOps,nthOp]
   repeat (first|(refine wpS_skip rfl (fun K hK=>?_);go_big_quiet_op;refine hK _ ?_;clear hK K)|(refine wpS_quiet rfl rfl (fun K hK=>?_);go_big_quiet_op;refine hK _ ?_;clear hK K))
   refine wpS_late _ _ _ rfl ?_
   dsimp only[List.map]
   go_wp2
   refine NoPanic.normal ?_
   go_wp2_with fail
   go_roundw
   case rel=>exact ⟨k+1,by omega,by go_num,k1.out.drew,k2.out.drew,k3.out,k4.out.drew⟩
   case measure=>simp[intOf];omega
  ·have e:k=n:=by omega
   subst e
   have hall:addTo A B k=sumL A B:=by rw[← addTo_all,HAL.out]
   rw[hall] at hA
   have HE:=Lib.hid (fun W hb=>elem_c q p (.slice az k cz) (some ⟨ga,0,none⟩) k c1 (sumL A B) W ((hA.out.ic (by omega)).mono hb) hn1 (by omega) hp2 HPW.out (by omega))
   rw[← HD.out] at HE
   obtain ⟨x0,x1,x2,xl⟩:=c3_of hQ.out
   go_wp2_with (first|(go_at_call 170;refine (HE.out _ (Below.refl _ _)).mono ?_;rintro _ w9 ⟨rfl,hb9⟩)|fail)
   refine bodyPost_ret (v := .int .i64 R) ?_ rfl ⟨rfl,keep_trans hBe.out hb9⟩
   simp[results,Tryz.f131,go_sem]
end
end Go.Proofs.YtmfpdakaeagdpaaGreat
