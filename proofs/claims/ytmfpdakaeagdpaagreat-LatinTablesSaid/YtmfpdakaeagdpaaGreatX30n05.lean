/- Texts J164 to J164 of this proof, in one file. -/
import Derived.Test.YtmfpdakaeagdpaaGreatW01
import Derived.Test.YtmfpdakaeagdpaaGreatW02
import Derived.Test.YtmfpdakaeagdpaaGreatW03
import Derived.Test.YtmfpdakaeagdpaaGreatW04
import Derived.Test.YtmfpdakaeagdpaaGreatW05
import Derived.Test.YtmfpdakaeagdpaaGreatW06
import Derived.Test.YtmfpdakaeagdpaaGreatW07
import Derived.Test.YtmfpdakaeagdpaaGreatW08
import Derived.Test.YtmfpdakaeagdpaaGreatW09
import Derived.Test.YtmfpdakaeagdpaaGreatW10
import Derived.Test.YtmfpdakaeagdpaaGreatW11
import Derived.Test.YtmfpdakaeagdpaaGreatW12
import Derived.Test.YtmfpdakaeagdpaaGreatW13
import Derived.Test.YtmfpdakaeagdpaaGreatW14
import Derived.Test.YtmfpdakaeagdpaaGreatW15
import Derived.Test.YtmfpdakaeagdpaaGreatW16
import Derived.Test.YtmfpdakaeagdpaaGreatW17
import Derived.Test.YtmfpdakaeagdpaaGreatW18
import Derived.Test.YtmfpdakaeagdpaaGreatW19
import Derived.Test.YtmfpdakaeagdpaaGreatW20
import Derived.Test.YtmfpdakaeagdpaaGreatW21
import Derived.Test.YtmfpdakaeagdpaaGreatW22
import Derived.Test.YtmfpdakaeagdpaaGreatW23
import Derived.Test.YtmfpdakaeagdpaaGreatW24
import Derived.Test.YtmfpdakaeagdpaaGreatW25
import Derived.Test.YtmfpdakaeagdpaaGreatW26
import Derived.Test.YtmfpdakaeagdpaaGreatW27
import Derived.Test.YtmfpdakaeagdpaaGreatX30n01
import Derived.Test.YtmfpdakaeagdpaaGreatX30n02
import Derived.Test.YtmfpdakaeagdpaaGreatX30n03
import Derived.Test.YtmfpdakaeagdpaaGreatX30n04
import Derived.Below
import Derived.BigFrame
import Derived.BigQuiet
import Derived.Deep.CutBlock
import Derived.Deep.CutRange
import Derived.Deep.LoopGhost
import Derived.Deep.Quiet
import Derived.Deep.RegionHeld3
import Derived.DeepKeys4
import Derived.KernelRfl
import Derived.Laws.BitsAllLaws
import Derived.Laws.EntriesVeiled
import Derived.Lib.AppendZeros
import Derived.Lib.Hide
import Derived.Lib.SlKeysI
import Derived.Lib.SliceRun
import Derived.LoopIn
import Derived.LoopNIn
import Derived.Maps.AppendAt
import Derived.Maps.OwnIn
import Derived.Maps.OwnSet
import Derived.OneCell
import Derived.OrdersHeld
import Derived.OrdersIn
import Derived.OwnWalkIn
import Derived.RangeFuncBound
import Derived.RangeFuncBox
import Derived.RangeFuncCalls
import Derived.RangeFuncLeaves
import Derived.RangeFuncNested
import Derived.RangeFuncWrites
import Derived.Shelf.Abstract
import Derived.Shelf.SortM.Plain
import Derived.Still
import Derived.TacticsIn
import Derived.TacticsInMore
import Derived.Test.YtmfpdakaeagdpaaGreatProg
import Derived.WalkKit
import Derived.WalkLawsBesides
import Derived.WalkSpells
import Derived.WideKeyPair
namespace Go.Proofs.YtmfpdakaeagdpaaGreat
set_option maxRecDepth 100000
set_option maxHeartbeats 16000000
section
open Go Go.RowKit
attribute [local go_sem] over_cell
attribute [local go_sem] Oper.semAt_some
attribute [local go_sem] hold2_a0 hold2_a1 hold2_a2 hold2_b0 hold2_b1 hold2_b2
structure RqF (w:World) (b2 b3 b4 b5 ga gb m:Nat) (n:Int) (xs ys:List Int) (W:World):Prop where
 q2:W.heap[b2]?=some (.cells #[.int .i64 0,.int .i64 0,.slice none 0 0] 24 (0,0))
 q3:W.heap[b3]?=some (.cells #[.int .i64 0,.int .i64 0,.slice none 0 0] 24 (0,0))
 q4:W.heap[b4]?=some (.cells #[.int .i64 n,.int .i64 n,.slice (some ⟨ga,0,none⟩) m m] 24 (0,0))
 q5:W.heap[b5]?=some (.cells #[.int .i64 n,.int .i64 n,.slice (some ⟨gb,0,none⟩) m m] 24 (0,0))
 oa:OI W w.heap.size ga m m xs
 ob:OI W w.heap.size gb m m ys
 bl:Below w.heap.size w W
 ne:w.heap.size≤b2∧b2<b3∧b3<ga∧ga<gb∧gb<b4∧b4<b5
theorem RqF.set {w:World} {b2 b3 b4 b5 ga gb m:Nat} {n:Int} {xs ys:List Int} {W:World} (h:RqF w b2 b3 b4 b5 ga gb m n xs ys W) (k:Nat) (x y:Int):RqF w b2 b3 b4 b5 ga gb m n (xs.set k x) (ys.set k y) ((W.setCell ⟨ga,k,none⟩ (.int .i64 x)).setCell ⟨gb,k,none⟩ (.int .i64 y)) where
 q2:=q_other (q_other h.q2 (by have:=h.ne;omega) _) (by have:=h.ne;omega) _
 q3:=q_other (q_other h.q3 (by have:=h.ne;omega) _) (by have:=h.ne;omega) _
 q4:=q_other (q_other h.q4 (by have:=h.ne;omega) _) (by have:=h.ne;omega) _
 q5:=q_other (q_other h.q5 (by have:=h.ne;omega) _) (by have:=h.ne;omega) _
 oa:=(h.oa.set k x).other (by have:=h.ne;omega) _
 ob:=(h.ob.other (by have:=h.ne;omega) _).set k y
 bl:=(h.bl.setCell (p:=⟨ga,k,none⟩) (by have:=h.ne;show w.heap.size≤ga;omega) _).setCell (p:=⟨gb,k,none⟩) (by have:=h.ne;show w.heap.size≤gb;omega) _
 ne:=h.ne
theorem RqF.keep {w:World} {b2 b3 b4 b5 ga gb m:Nat} {n:Int} {xs ys:List Int} {W W':World} (h:RqF w b2 b3 b4 b5 ga gb m n xs ys W) (hb:Below W.heap.size W W'):RqF w b2 b3 b4 b5 ga gb m n xs ys W' where
 q2:=keepq hb h.q2
 q3:=keepq hb h.q3
 q4:=keepq hb h.q4
 q5:=keepq hb h.q5
 oa:=h.oa.keep hb
 ob:=h.ob.keep hb
 bl:=keep_trans h.bl hb
 ne:=h.ne
theorem RqF.fin {w:World} {b2 b3 b4 b5 ga gb m:Nat} {n:Int} {xs ys:List Int} {W:World} (h:RqF w b2 b3 b4 b5 ga gb m n xs ys W) {W9:World}
  (hb:Below ((((((W.setCell ⟨b2,0,none⟩ (.int .i64 n)).setCell ⟨b2,1,none⟩ (.int .i64 n)).setCell ⟨b2,2,none⟩ (.slice (some ⟨ga,0,none⟩) m m)).setCell ⟨b3,0,none⟩ (.int .i64 n)).setCell ⟨b3,1,none⟩ (.int .i64 n)).setCell ⟨b3,2,none⟩ (.slice (some ⟨gb,0,none⟩) m m)).heap.size ((((((W.setCell ⟨b2,0,none⟩ (.int .i64 n)).setCell ⟨b2,1,none⟩ (.int .i64 n)).setCell ⟨b2,2,none⟩ (.slice (some ⟨ga,0,none⟩) m m)).setCell ⟨b3,0,none⟩ (.int .i64 n)).setCell ⟨b3,1,none⟩ (.int .i64 n)).setCell ⟨b3,2,none⟩ (.slice (some ⟨gb,0,none⟩) m m)) W9) :
  W9.heap[b2]?=some (.cells #[.int .i64 n,.int .i64 n,.slice (some ⟨ga,0,none⟩) m m] 24 (0,0))∧W9.heap[b3]?=some (.cells #[.int .i64 n,.int .i64 n,.slice (some ⟨gb,0,none⟩) m m] 24 (0,0)) ∧
  OI W9 w.heap.size ga m m xs∧OI W9 w.heap.size gb m m ys∧Below w.heap.size w W9:=by
 have hne:=h.ne
 have h1:=st3_q (x0 := .int .i64 n) (x1 := .int .i64 n) (x2 := .slice (some ⟨ga,0,none⟩) m m) h.q2
 have h2:=q_other (i:=2) (q_other (i:=1) (q_other (i:=0) h1 (show b2≠b3 by omega) (.int .i64 n)) (show b2≠b3 by omega) (.int .i64 n)) (show b2≠b3 by omega) (.slice (some ⟨gb,0,none⟩) m m)
 have g1:=q_other (i:=2) (q_other (i:=1) (q_other (i:=0) h.q3 (show b3≠b2 by omega) (.int .i64 n)) (show b3≠b2 by omega) (.int .i64 n)) (show b3≠b2 by omega) (.slice (some ⟨ga,0,none⟩) m m)
 have g2:=st3_q (x0 := .int .i64 n) (x1 := .int .i64 n) (x2 := .slice (some ⟨gb,0,none⟩) m m) g1
 have a1:=((((((h.oa.other (b:=b2) (i:=0) (by omega) (.int .i64 n)).other (b:=b2) (i:=1) (by omega) (.int .i64 n)).other (b:=b2) (i:=2) (by omega) (.slice (some ⟨ga,0,none⟩) m m)).other (b:=b3) (i:=0) (by omega) (.int .i64 n)).other (b:=b3) (i:=1) (by omega) (.int .i64 n)).other (b:=b3) (i:=2) (by omega) (.slice (some ⟨gb,0,none⟩) m m))
 have c1:=((((((h.ob.other (b:=b2) (i:=0) (by omega) (.int .i64 n)).other (b:=b2) (i:=1) (by omega) (.int .i64 n)).other (b:=b2) (i:=2) (by omega) (.slice (some ⟨ga,0,none⟩) m m)).other (b:=b3) (i:=0) (by omega) (.int .i64 n)).other (b:=b3) (i:=1) (by omega) (.int .i64 n)).other (b:=b3) (i:=2) (by omega) (.slice (some ⟨gb,0,none⟩) m m))
 have d1:=st3_below (x0 := .int .i64 n) (x1 := .int .i64 n) (x2 := .slice (some ⟨ga,0,none⟩) m m) (b:=b2) h.bl (by omega)
 have d2:=st3_below (x0 := .int .i64 n) (x1 := .int .i64 n) (x2 := .slice (some ⟨gb,0,none⟩) m m) (b:=b3) d1 (by omega)
 exact ⟨keepq hb h2,keepq hb g2,a1.keep hb,c1.keep hb,keep_trans d2 hb⟩
def FldR (w:World) (n:Int) (m:Nat) (xs ys:List Int) (e:Ending) (w':World):Prop :=
 ∃ga gb,e = .returned (.tuple #[.agg #[.int .i64 n,.int .i64 n,.slice (some ⟨ga,0,none⟩) m m],.agg #[.int .i64 n,.int .i64 n,.slice (some ⟨gb,0,none⟩) m m]])∧OI w' w.heap.size ga m m xs∧OI w' w.heap.size gb m m ys∧Below w.heap.size w w'
theorem rfield_c (N:Nat) (w:World) (h1:1≤N) (h2:N≤16) (hf:fldB N=true):Calls Tryz.prog 64 #[.int .i64 (N:Int)] w (FldR w (N:Int) (N*N) (madeTo N (fAdd N) (N*N)) (madeTo N (fTimes N) (N*N))):=by
 have hm:N*N≤16*16:=Nat.mul_le_mul h2 h2
 obtain ⟨m,hmm⟩:∃m,m=N*N:=⟨_,rfl⟩
 have HS:=Lib.hid (fun W=>rsq_c N m hmm (by omega) W)
 have hmb:m≤256:=by omega
 have HMM:=Lib.hid hmm
 rw[← hmm]
 clear hmm hm
 have HAD:=Lib.hid (fun (i j:Nat) (hi:i<N) (hj:j<N) W=>raddq_c N i j h2 hf (by omega) (by omega) W)
 have HTI:=Lib.hid (fun (i j:Nat) (hi:i<N) (hj:j<N) W=>rtimes_c N i j h2 hf hi hj W)
 generalize fAdd N=s at HAD ⊢
 generalize fTimes N=t at HTI ⊢
 go_enter Tryz.func64,Tryz.ntmps64
 go_upto_region 1 with fail
 have fsz:((w.alloc (.cells #[.int .i64 0,.int .i64 0,.slice none 0 0] 24)).alloc (.cells #[.int .i64 0,.int .i64 0,.slice none 0 0] 24)).heap.size=w.heap.size+2:=by simp only[World.size_alloc] <;> omega
 have fB:Below w.heap.size w ((w.alloc (.cells #[.int .i64 0,.int .i64 0,.slice none 0 0] 24)).alloc (.cells #[.int .i64 0,.int .i64 0,.slice none 0 0] 24)):=((Below.refl _ _).alloc (Nat.le_refl _) _).alloc (by simp only[World.size_alloc];omega) _
 have fq0:((w.alloc (.cells #[.int .i64 0,.int .i64 0,.slice none 0 0] 24)).alloc (.cells #[.int .i64 0,.int .i64 0,.slice none 0 0] 24)).heap[w.heap.size]?=some (.cells #[.int .i64 0,.int .i64 0,.slice none 0 0] 24 (0,0)):=by have h:=World.alloc_heap_new w (.cells #[.int .i64 0,.int .i64 0,.slice none 0 0] 24);exact (Below.heap_alloc _ _ _ (by simp only[World.size_alloc];omega)).trans (h)
 have fq1:((w.alloc (.cells #[.int .i64 0,.int .i64 0,.slice none 0 0] 24)).alloc (.cells #[.int .i64 0,.int .i64 0,.slice none 0 0] 24)).heap[w.heap.size+1]?=some (.cells #[.int .i64 0,.int .i64 0,.slice none 0 0] 24 (0,0)):=by have h:=World.alloc_heap_new (w.alloc (.cells #[.int .i64 0,.int .i64 0,.slice none 0 0] 24)) (.cells #[.int .i64 0,.int .i64 0,.slice none 0 0] 24);simp only[World.size_alloc] at h;exact h
 generalize ((w.alloc (.cells #[.int .i64 0,.int .i64 0,.slice none 0 0] 24)).alloc (.cells #[.int .i64 0,.int .i64 0,.slice none 0 0] 24))=W0 at fsz fB fq0 fq1 ⊢
 have Q0:=Lib.hid fq0
 have Q1:=Lib.hid fq1
 have FB:=Lib.hid fB
 have hs0:w.heap.size+2=W0.heap.size:=fsz.symm
 clear fsz fq0 fq1 fB
 have HSA:=Lib.hid (HS.out W0)
 go_upto_region 2 with (first|(go_at_call 101;(with_reducible refine HSA.out.mono ?_);rintro _ w2 ⟨ga,rfl,oa,hb2⟩)|(go_at_call 101;(with_reducible refine (HS.out _).mono ?_);rintro _ w3 ⟨gb,rfl,ob,hb3⟩)|fail)
 have hga:=oa.blk
 have hgb:=ob.blk
 have ksz:((w3.alloc (.cells #[.int .i64 (N:Int),.int .i64 (N:Int),.slice (some ⟨ga,0,none⟩) m m] 24)).alloc (.cells #[.int .i64 (N:Int),.int .i64 (N:Int),.slice (some ⟨gb,0,none⟩) m m] 24)).heap.size=w3.heap.size+2:=by simp only[World.size_alloc] <;> omega
 have kB:Below w3.heap.size w3 ((w3.alloc (.cells #[.int .i64 (N:Int),.int .i64 (N:Int),.slice (some ⟨ga,0,none⟩) m m] 24)).alloc (.cells #[.int .i64 (N:Int),.int .i64 (N:Int),.slice (some ⟨gb,0,none⟩) m m] 24)):=((Below.refl _ _).alloc (Nat.le_refl _) _).alloc (by simp only[World.size_alloc];omega) _
 have kq0:((w3.alloc (.cells #[.int .i64 (N:Int),.int .i64 (N:Int),.slice (some ⟨ga,0,none⟩) m m] 24)).alloc (.cells #[.int .i64 (N:Int),.int .i64 (N:Int),.slice (some ⟨gb,0,none⟩) m m] 24)).heap[w3.heap.size]?=some (.cells #[.int .i64 (N:Int),.int .i64 (N:Int),.slice (some ⟨ga,0,none⟩) m m] 24 (0,0)):=by have h:=World.alloc_heap_new w3 (.cells #[.int .i64 (N:Int),.int .i64 (N:Int),.slice (some ⟨ga,0,none⟩) m m] 24);exact (Below.heap_alloc _ _ _ (by simp only[World.size_alloc];omega)).trans (h)
 have kq1:((w3.alloc (.cells #[.int .i64 (N:Int),.int .i64 (N:Int),.slice (some ⟨ga,0,none⟩) m m] 24)).alloc (.cells #[.int .i64 (N:Int),.int .i64 (N:Int),.slice (some ⟨gb,0,none⟩) m m] 24)).heap[w3.heap.size+1]?=some (.cells #[.int .i64 (N:Int),.int .i64 (N:Int),.slice (some ⟨gb,0,none⟩) m m] 24 (0,0)):=by have h:=World.alloc_heap_new (w3.alloc (.cells #[.int .i64 (N:Int),.int .i64 (N:Int),.slice (some ⟨ga,0,none⟩) m m] 24)) (.cells #[.int .i64 (N:Int),.int .i64 (N:Int),.slice (some ⟨gb,0,none⟩) m m] 24);simp only[World.size_alloc] at h;exact h
 generalize ((w3.alloc (.cells #[.int .i64 (N:Int),.int .i64 (N:Int),.slice (some ⟨ga,0,none⟩) m m] 24)).alloc (.cells #[.int .i64 (N:Int),.int .i64 (N:Int),.slice (some ⟨gb,0,none⟩) m m] 24))=W4 at ksz kB kq0 kq1 ⊢
 have hk4:Below W0.heap.size W0 W4:=keep_trans (keep_trans hb2 hb3) kB
 have HR:Hid (RqF w w.heap.size (w.heap.size+1) w3.heap.size (w3.heap.size+1) ga gb m (N:Int) (fillTo N s m (0*N)) (fillTo N t m (0*N)) W4):=⟨keepq hk4 Q0.out,keepq hk4 Q1.out,kq0,kq1,by rw[Nat.zero_mul,fillTo_zero];exact (oa.keep (keep_trans hb3 kB)).base (by omega),by rw[Nat.zero_mul,fillTo_zero];exact (ob.keep kB).base (by have:=hb2.size;omega),keep_trans FB.out hk4,by omega⟩
 clear ksz kq0 kq1 kB hb2 hb3 oa ob hga hgb hk4
 generalize w3.heap.size=b4 at HR ⊢
 go_wp2_with fail
 go_loopw [6,7] (fun s6 _ wr=>∃i:Nat,i≤N∧s6 = .int .i64 (i:Int)∧Hid (RqF w w.heap.size (w.heap.size+1) b4 (b4+1) ga gb m (N:Int) (fillTo N s m (i*N)) (fillTo N t m (i*N)) wr)) (fun s6 _ _=>N - (intOf s6).toNat)
 case atStart=>exact ⟨0,by omega,rfl,HR⟩
 case round =>
  obtain ⟨i,hi,rfl,hR⟩:=hrel
  by_cases hlt:i<N
  ·have hii:(i:Int)<(N:Int):=by omega
   go_wp2_with fail
   go_loopw [7] (fun s7 wr=>∃j:Nat,j≤N∧s7 = .int .i64 (j:Int)∧Hid (RqF w w.heap.size (w.heap.size+1) b4 (b4+1) ga gb m (N:Int) (fillTo N s m (i*N+j)) (fillTo N t m (i*N+j)) wr)) (fun s7 _=>N - (intOf s7).toNat)
   case atStart=>exact ⟨0,by omega,rfl,hR⟩
   case round =>
    obtain ⟨j,hj,rfl,hR2⟩:=hrel
    by_cases hlt2:j<N
    ·have hji:(j:Int)<(N:Int):=by omega
     have hkk:i*N+j<m:=by rw[HMM.out];exact gcell_lt hlt hlt2
     have HA:=Lib.hid (HAD.out i j hlt hlt2)
     have HT:=Lib.hid (HTI.out i j hlt hlt2)
     have HKS:=Lib.hid (fun W (hb:Below wr.heap.size wr W)=>(hR2.out.keep hb).set (i*N+j) (s i j) (t i j))
     rw[fillTo_set (s:=s) hlt2 hkk,fillTo_set (s:=t) hlt2 hkk] at HKS
     obtain ⟨e,he⟩:∃e,e=i*N+j:=⟨_,rfl⟩
     obtain ⟨d,hd⟩:∃d,d=i*N:=⟨_,rfl⟩
     have hd1:(i:Int)*(N:Int)=(d:Int):=by rw[hd,Int.natCast_mul]
     have hd2:(d:Int)+(j:Int)=(e:Int):=by rw[he,hd,Int.natCast_add]
     have hd3:d≤256:=by omega
     have HK1:Hid (∀W,Below wr.heap.size wr W→RqF w w.heap.size (w.heap.size+1) b4 (b4+1) ga gb m (N:Int) (fillTo N s m (i*N+j+1)) (fillTo N t m (i*N+j+1)) ((W.setCell ⟨ga,e,none⟩ (.int .i64 (s i j))).setCell ⟨gb,e,none⟩ (.int .i64 (t i j)))):=fun W hb=>by rw[he];exact HKS.out W hb
     have hke:e<m:=by omega
     have hcell:=fun W (hb:Below wr.heap.size wr W)=>And.intro ((hR2.out.keep hb).oa.at hke) ((hR2.out.keep hb).ob.at hke)
     have HCE:=Lib.hid hcell
     have HGN:Hid (ga≠gb∧gb≠ga∧b4≠ga∧b4+1≠ga):=by have:=hR2.out.ne;exact ⟨by omega,by omega,by omega,by omega⟩
     obtain ⟨x0,x1,x2,xl⟩:=c3_of hR2.out.q4
     obtain ⟨y0,y1,y2,yl⟩:=c3_of hR2.out.q5
     clear he hd hkk HKS hcell
     generalize s i j=sv at HA HK1
     generalize t i j=tv at HT HK1
     go_wp2_with fail
     refine wp_region_T (fun w'=>∃u,w'=hold2 (.cells #[.int .i64 (N:Int),.int .i64 (N:Int),.slice (some ⟨ga,0,none⟩) m m] 24 (0,0)) b4 (.cells #[.int .i64 (N:Int),.int .i64 (N:Int),.slice (some ⟨gb,0,none⟩) m m] 24 (0,0)) u) [0,2,3,4,5,6,7,9,10,11,12,13,14,15,16,18,19,20] [25] [(0,1),(0,8),(1,17),(1,21),(0,22),(1,23),(0,24),(2,25)] (by kernel_rfl) (by kernel_rfl) (by first|exact ⟨_,hold2_of C4 C5⟩|exact ⟨_,hold2_of B4 B5⟩|exact ⟨_,hold2_of A4 A5⟩|exact ⟨_,hold2_of hR2.out.q4 hR2.out.q5⟩|exact ⟨_,hold2_of hR2.out.drew.q4 hR2.out.drew.q5⟩) ?_
     dsimp only[pickF,nthOp]
     repeat (first|(refine wpF_skip rfl (fun K hK=>?_);go_big_quiet_op;refine hK _ ?_;clear hK K)|(refine wpF_quiet rfl rfl (fun K hK=>?_);go_big_quiet_op;refine hK _ ?_;clear hK K))
     refine wpF_end ?_
     dsimp only[pickOps,nthOp]
     repeat (first|(refine wpS_skip rfl (fun K hK=>?_);go_big_quiet_op;refine hK _ ?_;clear hK K)|(refine wpS_quiet rfl rfl (fun K hK=>?_);go_big_quiet_op;refine hK _ ?_;clear hK K)|(refine wpS_loud ?_;go_wp2_with (first|(go_at_call 136;(with_reducible refine (HA.out _).mono ?_);rintro _ w5 ⟨rfl,hb5⟩;have hk5:Below wr.heap.size wr w5:=(by (repeat (first|assumption|exact Below.refl _ _|refine keep_drew ?_|refine keep_alloc ?_ _|refine keep_trans ?_ (by assumption))));have A4:=keepq hk5 hR2.out.q4;have A5:=keepq hk5 hR2.out.q5)|(go_at_call 137;(with_reducible refine (HT.out _).mono ?_);rintro _ w6 ⟨rfl,hb6⟩;have hk6:Below wr.heap.size wr w6:=(keep_trans hk5 hb6);obtain ⟨⟨u0,u1,u2⟩,⟨v0,v1,v2⟩⟩:=HCE.out _ hk6;have hg1:=HGN.out.1;have hg2:=HGN.out.2;have B4:=keepq hk6 hR2.out.q4;have B5:=keepq hk6 hR2.out.q5;have C4:=q_other (i:=e) B4 HGN.out.2.2.1 (.int .i64 sv);have C5:=q_other (i:=e) B5 HGN.out.2.2.2 (.int .i64 sv))|fail);refine ⟨?_,?_⟩;focus (first|exact ⟨_,hold2_of C4 C5⟩|exact ⟨_,hold2_of B4 B5⟩|exact ⟨_,hold2_of A4 A5⟩|exact ⟨_,hold2_of hR2.out.q4 hR2.out.q5⟩|exact ⟨_,hold2_of hR2.out.drew.q4 hR2.out.drew.q5⟩)))
     refine wpS_late _ _ _ rfl ?_
     dsimp only[List.map]
     go_wp2_with (first|(go_at_call 136;(with_reducible refine (HA.out _).mono ?_);rintro _ w5 ⟨rfl,hb5⟩;have hk5:Below wr.heap.size wr w5:=(by (repeat (first|assumption|exact Below.refl _ _|refine keep_drew ?_|refine keep_alloc ?_ _|refine keep_trans ?_ (by assumption))));have A4:=keepq hk5 hR2.out.q4;have A5:=keepq hk5 hR2.out.q5)|(go_at_call 137;(with_reducible refine (HT.out _).mono ?_);rintro _ w6 ⟨rfl,hb6⟩;have hk6:Below wr.heap.size wr w6:=(keep_trans hk5 hb6);obtain ⟨⟨u0,u1,u2⟩,⟨v0,v1,v2⟩⟩:=HCE.out _ hk6;have hg1:=HGN.out.1;have hg2:=HGN.out.2;have B4:=keepq hk6 hR2.out.q4;have B5:=keepq hk6 hR2.out.q5;have C4:=q_other (i:=e) B4 HGN.out.2.2.1 (.int .i64 sv);have C5:=q_other (i:=e) B5 HGN.out.2.2.2 (.int .i64 sv))|fail)
     refine NoPanic.normal ?_
     go_wp2_with fail
     go_roundw
     case rel=>exact ⟨j+1,by omega,by go_num,HK1.out _ hk6⟩
     case measure=>simp[intOf];omega
    ·have e:j=N:=by omega
     have HK2:Hid (RqF w w.heap.size (w.heap.size+1) b4 (b4+1) ga gb m (N:Int) (fillTo N s m ((i+1)*N)) (fillTo N t m ((i+1)*N)) wr):=by have h:=hR2.out;rw[e,show i*N+N=(i+1)*N by rw[Nat.succ_mul]] at h;exact h
     have hno:¬(j:Int)<(N:Int):=by omega
     clear e
     go_wp2_with fail
     go_roundw
     case rel=>exact ⟨i+1,by omega,by go_num,HK2⟩
     case measure=>simp[intOf];omega
  ·have e:i=N:=by omega
   have hno:¬(i:Int)<(N:Int):=by omega
   have HF:=hR.out
   rw[e,← HMM.out,fillTo_end,fillTo_end] at HF
   have HF9:=Lib.hid HF
   clear e hR HR
   obtain ⟨x0,x1,x2,xl⟩:=c3_of HF.q4
   obtain ⟨y0,y1,y2,yl⟩:=c3_of HF.q5
   obtain ⟨d0,d1,d2,dl⟩:=c3_of HF.q2
   obtain ⟨df0,df1,df2⟩:=f3_of HF.q2
   obtain ⟨e0,e1,e2,el⟩:=c3_of HF.q3
   obtain ⟨ef0,ef1,ef2⟩:=f3_of HF.q3
   have hne:=HF.ne
   have n1:b4≠w.heap.size:=by omega
   have n2:b4≠w.heap.size+1:=by omega
   have n3:b4+1≠w.heap.size:=by omega
   have n4:b4+1≠w.heap.size+1:=by omega
   have n5:w.heap.size≠w.heap.size+1:=by omega
   have n1':=n1.symm
   have n2':=n2.symm
   have n3':=n3.symm
   have n4':=n4.symm
   have n5':=n5.symm
   clear HF hne
   go_wp2_with fail
   go_region
   obtain ⟨gA,gB,o1,o2,hBf⟩:=HF9.out.fin (keep_drew (Below.refl _ _))
   go_wp2_with fail
   obtain ⟨z0,z1,z2,zl⟩:=c3_of gA
   obtain ⟨s0,s1,s2,sl⟩:=c3_of gB
   refine bodyPost_ret (v := .tuple #[.agg #[.int .i64 (N:Int),.int .i64 (N:Int),.slice (some ⟨ga,0,none⟩) m m],.agg #[.int .i64 (N:Int),.int .i64 (N:Int),.slice (some ⟨gb,0,none⟩) m m]]) ?_ rfl ⟨ga,gb,rfl,o1,o2,hBf⟩
   simp[results,Tryz.f64,go_sem,z0,z1,z2,s0,s1,s2]
end
end Go.Proofs.YtmfpdakaeagdpaaGreat
