/- Texts J105 to J105 of this proof, in one file. -/
import Derived.Test.YtmfpdakaeagdpaaGreatW01
import Derived.Test.YtmfpdakaeagdpaaGreatW02
import Derived.Test.YtmfpdakaeagdpaaGreatW03
import Derived.Test.YtmfpdakaeagdpaaGreatW04
import Derived.Test.YtmfpdakaeagdpaaGreatW05
import Derived.Test.YtmfpdakaeagdpaaGreatW06
import Derived.Test.YtmfpdakaeagdpaaGreatW07
import Derived.Test.YtmfpdakaeagdpaaGreatW08
import Derived.Test.YtmfpdakaeagdpaaGreatW09
import Derived.Test.YtmfpdakaeagdpaaGreatW10
import Derived.Test.YtmfpdakaeagdpaaGreatW11
import Derived.Test.YtmfpdakaeagdpaaGreatW12
import Derived.Test.YtmfpdakaeagdpaaGreatW13
import Derived.Test.YtmfpdakaeagdpaaGreatW14
import Derived.Test.YtmfpdakaeagdpaaGreatW15
import Derived.Test.YtmfpdakaeagdpaaGreatW16
import Derived.Test.YtmfpdakaeagdpaaGreatW17
import Derived.Test.YtmfpdakaeagdpaaGreatW18
import Derived.Test.YtmfpdakaeagdpaaGreatW19
import Derived.Test.YtmfpdakaeagdpaaGreatW20
import Derived.Test.YtmfpdakaeagdpaaGreatW21
import Derived.Test.YtmfpdakaeagdpaaGreatW22
import Derived.Test.YtmfpdakaeagdpaaGreatW23
import Derived.Test.YtmfpdakaeagdpaaGreatW24
import Derived.Test.YtmfpdakaeagdpaaGreatW25
import Derived.Test.YtmfpdakaeagdpaaGreatW26
import Derived.Below
import Derived.BigFrame
import Derived.BigQuiet
import Derived.Deep.CutBlock
import Derived.Deep.CutRange
import Derived.Deep.LoopGhost
import Derived.Deep.Quiet
import Derived.Deep.RegionHeld3
import Derived.DeepKeys4
import Derived.KernelRfl
import Derived.Laws.BitsAllLaws
import Derived.Laws.EntriesVeiled
import Derived.Lib.AppendZeros
import Derived.Lib.Hide
import Derived.Lib.SlKeysI
import Derived.Lib.SliceRun
import Derived.LoopIn
import Derived.LoopNIn
import Derived.Maps.AppendAt
import Derived.Maps.OwnIn
import Derived.Maps.OwnSet
import Derived.OneCell
import Derived.OrdersHeld
import Derived.OrdersIn
import Derived.OwnWalkIn
import Derived.RangeFuncBound
import Derived.RangeFuncBox
import Derived.RangeFuncCalls
import Derived.RangeFuncLeaves
import Derived.RangeFuncNested
import Derived.RangeFuncWrites
import Derived.Shelf.Abstract
import Derived.Shelf.SortM.Plain
import Derived.Still
import Derived.TacticsIn
import Derived.TacticsInMore
import Derived.Test.YtmfpdakaeagdpaaGreatProg
import Derived.WalkKit
import Derived.WalkLawsBesides
import Derived.WalkSpells
import Derived.WideKeyPair
namespace Go.Proofs.YtmfpdakaeagdpaaGreat
set_option maxRecDepth 100000
set_option maxHeartbeats 16000000
section
open Go Go.RowKit
attribute [local go_sem] over_cell
attribute [local go_sem] Oper.semAt_some
theorem lgrid_ic (n:Int) (a:Option Addr) (m c:Nat) (xs:List Int) (w:World) (h:IC w a m xs):Calls Tryz.prog 91 #[.int .i64 n,.slice a m c] w fun e w'=>e = .returned (.agg #[.int .i64 n,.int .i64 n,.slice a m c])∧IC w' a m xs∧Below w.heap.size w w' :=
 (lgrid_c n a m c w).mono fun _ _ h2=>⟨h2.1,h.mono h2.2,h2.2⟩
theorem kS3_eq:(kS3.toList==[117,110,105,112,111,116,101,110,116])=true:=by decide +kernel
theorem kS3_beq:(kS3==⟨#[117,110,105,112,111,116,101,110,116]⟩)=true:=by decide +kernel
theorem rc_same3 (W:World) (b1 b2 b3:Nat) (T:TypeId) (h1:b1=W.heap.size∨b1=W.heap.size+1∨b1=W.heap.size+1+1) (h2:b2=W.heap.size∨b2=W.heap.size+1∨b2=W.heap.size+1+1) (h3:b3=W.heap.size∨b3=W.heap.size+1∨b3=W.heap.size+1+1) :
  RC ((((W.alloc (.cells #[.int .i64 0,.int .i64 1] 3)).alloc (.cells #[.int .i64 0,.int .i64 1] 3)).alloc (.cells #[.int .i64 0,.int .i64 1] 3)).alloc (.cells #[.slice (some ⟨b1,0,none⟩) 2 2,.slice (some ⟨b2,0,none⟩) 2 2,.slice (some ⟨b3,0,none⟩) 2 2] T)) (some ⟨W.heap.size+1+1+1,0,none⟩) 3 T3:=by
 have h:∀b,(b=W.heap.size∨b=W.heap.size+1∨b=W.heap.size+1+1)→IC (((W.alloc (.cells #[.int .i64 0,.int .i64 1] 3)).alloc (.cells #[.int .i64 0,.int .i64 1] 3)).alloc (.cells #[.int .i64 0,.int .i64 1] 3)) (some ⟨b,0,none⟩) 2 [0,1]:=by
  rintro b (rfl|rfl|rfl)
  ·exact ((ic_lit W [0,1] (by decide)).mono (keep_alloc (Below.refl _ _) (.cells #[.int .i64 0,.int .i64 1] 3))).mono (keep_alloc (Below.refl _ _) (.cells #[.int .i64 0,.int .i64 1] 3))
  ·have h2:=(ic_lit (W.alloc (.cells #[.int .i64 0,.int .i64 1] 3)) [0,1] (by decide)).mono (keep_alloc (Below.refl _ _) (.cells #[.int .i64 0,.int .i64 1] 3))
   rw[World.size_alloc] at h2
   exact h2
  ·have h2:=ic_lit ((W.alloc (.cells #[.int .i64 0,.int .i64 1] 3)).alloc (.cells #[.int .i64 0,.int .i64 1] 3)) [0,1] (by decide)
   rw[World.size_alloc,World.size_alloc] at h2
   exact h2
 have:=rc_lit3 (c1:=2) (c2:=2) (c3:=2) T (h b1 h1) (h b2 h2) (h b3 h3) (by omega) (by omega) (by omega)
 rw[World.size_alloc,World.size_alloc,World.size_alloc] at this
 exact this
theorem awake4_c (w:World):Calls Tryz.prog 20 #[] w fun e w'=>e = .returned (.bool true)∧Below w.heap.size w w':=by
 go_enter Tryz.func20,Tryz.ntmps20
 go_upto_region 2 with (first|(go_at_call 54;refine (aC_cyc _).mono ?_;rintro _ u1 ⟨a1,c1,rfl,hi1,hk1,hb1⟩)|fail)
 have fsz:(u1.alloc (.cells #[.int .i64 3,.int .i64 3,.slice a1 9 c1] 24)).heap.size=u1.heap.size+1:=by simp only[World.size_alloc]
 have fB:Below u1.heap.size u1 (u1.alloc (.cells #[.int .i64 3,.int .i64 3,.slice a1 9 c1] 24)):=(Below.refl _ _).alloc (Nat.le_refl _) _
 have fq0:(u1.alloc (.cells #[.int .i64 3,.int .i64 3,.slice a1 9 c1] 24)).heap[u1.heap.size]?=some (.cells #[.int .i64 3,.int .i64 3,.slice a1 9 c1] 24 (0,0)):=by have h:=World.alloc_heap_new u1 (.cells #[.int .i64 3,.int .i64 3,.slice a1 9 c1] 24);exact h
 generalize (u1.alloc (.cells #[.int .i64 3,.int .i64 3,.slice a1 9 c1] 24))=V1 at fsz fB fq0 ⊢
 have HB:=Lib.hid (keep_trans hb1 fB)
 have FC:=Lib.hid (hi1.mono fB)
 have BC:=Lib.hid (fq0)
 clear hb1 hi1 fB fq0 fsz hk1
 go_upto_region 3 with (first|(go_at_call 91;refine (lgrid_ic _ _ _ _ X3 _ (by exact ic_lit _ X3 (by decide))).mono ?_;rintro _ ug ⟨rfl,icg,hbg⟩)|(go_at_call 67;refine (aC_tr _ _ _ icg).mono ?_;rintro _ u2 ⟨a2,c2,rfl,hi2,hb2⟩)|fail)
 have hbk:Below V1.heap.size V1 u2:=keep_trans (keep_trans (keep_alloc (Below.refl _ _) _) hbg) hb2
 replace HB:=Lib.hid (keep_trans HB.out hbk)
 replace FC:=Lib.hid (FC.out.mono hbk)
 replace BC:=Lib.hid (keepq hbk BC.out)
 have FTT:=Lib.hid (hi2)
 clear hbg hb2 hi2 icg hbk
 go_upto_region 4 with (first|(go_at_call 91;refine (lgrid_ic _ _ _ _ X3 _ (by exact ic_lit _ X3 (by decide))).mono ?_;rintro _ ug ⟨rfl,icg,hbg⟩)|(go_at_call 21;refine (aC_mt _ _ _ icg).mono ?_;rintro _ u3 ⟨a3,c3,rfl,hi3,hk3,hb3⟩)|fail)
 have fsz:(u3.alloc (.cells #[.int .i64 3,.int .i64 3,.slice a3 9 c3] 24)).heap.size=u3.heap.size+1:=by simp only[World.size_alloc]
 have fB:Below u3.heap.size u3 (u3.alloc (.cells #[.int .i64 3,.int .i64 3,.slice a3 9 c3] 24)):=(Below.refl _ _).alloc (Nat.le_refl _) _
 have fq0:(u3.alloc (.cells #[.int .i64 3,.int .i64 3,.slice a3 9 c3] 24)).heap[u3.heap.size]?=some (.cells #[.int .i64 3,.int .i64 3,.slice a3 9 c3] 24 (0,0)):=by have h:=World.alloc_heap_new u3 (.cells #[.int .i64 3,.int .i64 3,.slice a3 9 c3] 24);exact h
 generalize (u3.alloc (.cells #[.int .i64 3,.int .i64 3,.slice a3 9 c3] 24))=V3 at fsz fB fq0 ⊢
 have hbk:Below u2.heap.size u2 V3:=keep_trans (keep_trans (keep_trans (keep_alloc (Below.refl _ _) _) hbg) hb3) fB
 replace HB:=Lib.hid (keep_trans HB.out hbk)
 replace FC:=Lib.hid (FC.out.mono hbk)
 replace BC:=Lib.hid (keepq hbk BC.out)
 replace FTT:=Lib.hid (FTT.out.mono hbk)
 have FM:=Lib.hid (hi3.mono fB)
 have BM:=Lib.hid (fq0)
 clear hbg hb3 hi3 icg hbk fB fq0 fsz hk3
 go_upto_region 5 with (first|(go_at_call 60;refine (aC_l4 _).mono ?_;rintro _ ul ⟨gl4,rfl,ol4,hbl⟩;have icl:=ol4.ic (by omega))|(go_at_call 49;refine (aC_rf _ _ _ icl).mono ?_;rintro _ u4 ⟨rfl,hb4⟩)|fail)
 have hbk:Below V3.heap.size V3 u4:=keep_trans (keep_trans (Below.refl _ _) hbl) hb4
 replace HB:=Lib.hid (keep_trans HB.out hbk)
 replace FC:=Lib.hid (FC.out.mono hbk)
 replace BC:=Lib.hid (keepq hbk BC.out)
 replace FTT:=Lib.hid (FTT.out.mono hbk)
 replace FM:=Lib.hid (FM.out.mono hbk)
 replace BM:=Lib.hid (keepq hbk BM.out)
 clear hbl hb4 icl ol4 hbk
 go_upto_region 6 with (first|(go_at_call 60;refine (aC_l4 _).mono ?_;rintro _ ul5 ⟨gl5,rfl,ol4,hbl⟩;have icl:=ol4.ic (by omega))|(go_at_call 21;refine (aC_m4 _ _ _ icl).mono ?_;rintro _ u5 ⟨a5,c5,rfl,hi5,hk5,hb5⟩)|fail)
 have fsz:(u5.alloc (.cells #[.int .i64 0,.int .i64 0,.slice a5 0 c5] 24)).heap.size=u5.heap.size+1:=by simp only[World.size_alloc]
 have fB:Below u5.heap.size u5 (u5.alloc (.cells #[.int .i64 0,.int .i64 0,.slice a5 0 c5] 24)):=(Below.refl _ _).alloc (Nat.le_refl _) _
 have fq0:(u5.alloc (.cells #[.int .i64 0,.int .i64 0,.slice a5 0 c5] 24)).heap[u5.heap.size]?=some (.cells #[.int .i64 0,.int .i64 0,.slice a5 0 c5] 24 (0,0)):=by have h:=World.alloc_heap_new u5 (.cells #[.int .i64 0,.int .i64 0,.slice a5 0 c5] 24);exact h
 generalize (u5.alloc (.cells #[.int .i64 0,.int .i64 0,.slice a5 0 c5] 24))=V5 at fsz fB fq0 ⊢
 have hbk:Below u4.heap.size u4 V5:=keep_trans (keep_trans (keep_trans (Below.refl _ _) hbl) hb5) fB
 replace HB:=Lib.hid (keep_trans HB.out hbk)
 replace FC:=Lib.hid (FC.out.mono hbk)
 replace BC:=Lib.hid (keepq hbk BC.out)
 replace FTT:=Lib.hid (FTT.out.mono hbk)
 replace FM:=Lib.hid (FM.out.mono hbk)
 replace BM:=Lib.hid (keepq hbk BM.out)
 clear hbl hb5 hi5 icl ol4 hbk fB fq0 fsz hk5
 go_upto_region 7 with (first|(go_at_call 56;refine (aC_f4 _).mono ?_;rintro _ u6 ⟨a6,c6,a6b,c6b,rfl,hi6,hi6b,hk6,hk6b,hb6⟩)|fail)
 obtain ⟨gA,oA,rfl⟩:=ic_at hi6 (by omega)
 obtain ⟨gB,oB,rfl⟩:=ic_at hi6b (by omega)
 have fsz:((u6.alloc (.cells #[.int .i64 4,.int .i64 4,.slice (some ⟨gA,oA,none⟩) 16 c6] 24)).alloc (.cells #[.int .i64 4,.int .i64 4,.slice (some ⟨gB,oB,none⟩) 16 c6b] 24)).heap.size=u6.heap.size+2:=by simp only[World.size_alloc] <;> omega
 have fB:Below u6.heap.size u6 ((u6.alloc (.cells #[.int .i64 4,.int .i64 4,.slice (some ⟨gA,oA,none⟩) 16 c6] 24)).alloc (.cells #[.int .i64 4,.int .i64 4,.slice (some ⟨gB,oB,none⟩) 16 c6b] 24)):=((Below.refl _ _).alloc (Nat.le_refl _) _).alloc (by simp only[World.size_alloc];omega) _
 have fq0:((u6.alloc (.cells #[.int .i64 4,.int .i64 4,.slice (some ⟨gA,oA,none⟩) 16 c6] 24)).alloc (.cells #[.int .i64 4,.int .i64 4,.slice (some ⟨gB,oB,none⟩) 16 c6b] 24)).heap[u6.heap.size]?=some (.cells #[.int .i64 4,.int .i64 4,.slice (some ⟨gA,oA,none⟩) 16 c6] 24 (0,0)):=by have h:=World.alloc_heap_new u6 (.cells #[.int .i64 4,.int .i64 4,.slice (some ⟨gA,oA,none⟩) 16 c6] 24);exact (Below.heap_alloc _ _ _ (by simp only[World.size_alloc];omega)).trans (h)
 have fq1:((u6.alloc (.cells #[.int .i64 4,.int .i64 4,.slice (some ⟨gA,oA,none⟩) 16 c6] 24)).alloc (.cells #[.int .i64 4,.int .i64 4,.slice (some ⟨gB,oB,none⟩) 16 c6b] 24)).heap[u6.heap.size+1]?=some (.cells #[.int .i64 4,.int .i64 4,.slice (some ⟨gB,oB,none⟩) 16 c6b] 24 (0,0)):=by have h:=World.alloc_heap_new (u6.alloc (.cells #[.int .i64 4,.int .i64 4,.slice (some ⟨gA,oA,none⟩) 16 c6] 24)) (.cells #[.int .i64 4,.int .i64 4,.slice (some ⟨gB,oB,none⟩) 16 c6b] 24);simp only[World.size_alloc] at h;exact h
 generalize ((u6.alloc (.cells #[.int .i64 4,.int .i64 4,.slice (some ⟨gA,oA,none⟩) 16 c6] 24)).alloc (.cells #[.int .i64 4,.int .i64 4,.slice (some ⟨gB,oB,none⟩) 16 c6b] 24))=V6 at fsz fB fq0 fq1 ⊢
 have hbk:Below V5.heap.size V5 V6:=keep_trans (keep_trans (Below.refl _ _) hb6) fB
 replace HB:=Lib.hid (keep_trans HB.out hbk)
 replace FC:=Lib.hid (FC.out.mono hbk)
 replace BC:=Lib.hid (keepq hbk BC.out)
 replace FTT:=Lib.hid (FTT.out.mono hbk)
 replace FM:=Lib.hid (FM.out.mono hbk)
 replace BM:=Lib.hid (keepq hbk BM.out)
 have FA:=Lib.hid (hi6.mono fB)
 have FB2:=Lib.hid (hi6b.mono fB)
 have BA:=Lib.hid (fq0)
 have BB:=Lib.hid (fq1)
 have hkA:=Lib.hid hk6
 have hkB:=Lib.hid hk6b
 clear hb6 hi6 hi6b hbk fB fq0 fq1 fsz hk6 hk6b
 go_upto_region 8 with (first|(go_at_call 57;refine (aC_fam _).mono ?_;rintro _ u7 ⟨a7,c7,rfl,hi7,hb7⟩)|fail)
 replace HB:=Lib.hid (keep_trans HB.out hb7)
 replace FC:=Lib.hid (FC.out.mono hb7)
 replace BC:=Lib.hid (keepq hb7 BC.out)
 replace FTT:=Lib.hid (FTT.out.mono hb7)
 replace FM:=Lib.hid (FM.out.mono hb7)
 replace BM:=Lib.hid (keepq hb7 BM.out)
 replace FA:=Lib.hid (FA.out.mono hb7)
 replace FB2:=Lib.hid (FB2.out.mono hb7)
 replace BA:=Lib.hid (keepq hb7 BA.out)
 replace BB:=Lib.hid (keepq hb7 BB.out)
 have GF:=Lib.hid (hi7)
 clear hb7 hi7
 go_upto_region 9 with (first|(go_at_call 46;refine (aC_me _ _ _ _ _ (icl1.mono hbl2) icl2).mono ?_;rintro _ u8 ⟨rfl,hb8⟩)|(go_at_call 60;refine (aC_l2 u7).mono ?_;rintro _ ul1 ⟨gl1,rfl,ol1,hbl1⟩;have icl1:=ol1.ic (by omega))|(go_at_call 60;refine (aC_l2 _).mono ?_;rintro _ ul2 ⟨gl2,rfl,ol2,hbl2⟩;have icl2:=ol2.ic (by omega))|fail)
 have hbk:Below u7.heap.size u7 u8:=keep_trans (keep_trans (keep_trans (Below.refl _ _) hbl1) hbl2) hb8
 replace HB:=Lib.hid (keep_trans HB.out hbk)
 replace FC:=Lib.hid (FC.out.mono hbk)
 replace BC:=Lib.hid (keepq hbk BC.out)
 replace FTT:=Lib.hid (FTT.out.mono hbk)
 replace FM:=Lib.hid (FM.out.mono hbk)
 replace BM:=Lib.hid (keepq hbk BM.out)
 replace FA:=Lib.hid (FA.out.mono hbk)
 replace FB2:=Lib.hid (FB2.out.mono hbk)
 replace BA:=Lib.hid (keepq hbk BA.out)
 replace BB:=Lib.hid (keepq hbk BB.out)
 replace GF:=Lib.hid (GF.out.below hbk)
 clear hbl1 hbl2 hb8 icl1 icl2 ol1 ol2 hbk
 go_upto_region 10 with (first|(go_at_call 91;refine (lgrid_ic _ _ _ _ [0,-1,-1,-1] _ (by exact ic_lit _ [0,-1,-1,-1] (by decide))).mono ?_;rintro _ ug ⟨rfl,icg,hbg⟩)|(go_at_call 27;refine (aC_co _ _ _ icg).mono ?_;rintro _ u9 ⟨a9,c9,rfl,hi9,hb9⟩)|fail)
 have hbk:Below u8.heap.size u8 u9:=keep_trans (keep_trans (keep_alloc (Below.refl _ _) _) hbg) hb9
 replace HB:=Lib.hid (keep_trans HB.out hbk)
 replace FC:=Lib.hid (FC.out.mono hbk)
 replace BC:=Lib.hid (keepq hbk BC.out)
 replace FTT:=Lib.hid (FTT.out.mono hbk)
 replace FM:=Lib.hid (FM.out.mono hbk)
 replace BM:=Lib.hid (keepq hbk BM.out)
 replace FA:=Lib.hid (FA.out.mono hbk)
 replace FB2:=Lib.hid (FB2.out.mono hbk)
 replace BA:=Lib.hid (keepq hbk BA.out)
 replace BB:=Lib.hid (keepq hbk BB.out)
 replace GF:=Lib.hid (GF.out.below hbk)
 have GP:=Lib.hid (hi9)
 clear hbg hb9 hi9 icg hbk
 have ics0:=(((show IC (u9.alloc (.cells #[.int .i64 0,.int .i64 1] 3)) (some ⟨u9.heap.size,0,none⟩) 2 [0,1] from ic_lit _ [0,1] (by decide))).mono (keep_alloc (Below.refl _ _) (.cells #[.int .i64 0] 3))).mono (keep_alloc (Below.refl _ _) (.cells #[.int .i64 1,.int .i64 2] 3))
 have ics1:=((show IC ((u9.alloc (.cells #[.int .i64 0,.int .i64 1] 3)).alloc (.cells #[.int .i64 0] 3)) (some ⟨(u9.alloc (.cells #[.int .i64 0,.int .i64 1] 3)).heap.size,0,none⟩) 1 [0] from ic_lit _ [0] (by decide))).mono (keep_alloc (Below.refl _ _) (.cells #[.int .i64 1,.int .i64 2] 3))
 have ics2:=(show IC (((u9.alloc (.cells #[.int .i64 0,.int .i64 1] 3)).alloc (.cells #[.int .i64 0] 3)).alloc (.cells #[.int .i64 1,.int .i64 2] 3)) (some ⟨((u9.alloc (.cells #[.int .i64 0,.int .i64 1] 3)).alloc (.cells #[.int .i64 0] 3)).heap.size,0,none⟩) 2 [1,2] from ic_lit _ [1,2] (by decide))
 have rcs:=Lib.hid (rc_lit3 22 (c1:=2) (c2:=1) (c3:=2) ics0 ics1 ics2 (by omega) (by omega) (by omega))
 simp only[World.size_alloc] at rcs
 go_upto_region 11 with (first|(go_at_call 31;refine (aC_rp _ _ _ rcs.out).mono ?_;rintro _ u10 ⟨a10,c10,rfl,hiS,hbS⟩)|fail)
 have hbk:Below u9.heap.size u9 u10:=keep_trans (keep_alloc (keep_alloc (keep_alloc (keep_alloc (Below.refl _ _) _) _) _) _) hbS
 replace HB:=Lib.hid (keep_trans HB.out hbk)
 replace FC:=Lib.hid (FC.out.mono hbk)
 replace BC:=Lib.hid (keepq hbk BC.out)
 replace FTT:=Lib.hid (FTT.out.mono hbk)
 replace FM:=Lib.hid (FM.out.mono hbk)
 replace BM:=Lib.hid (keepq hbk BM.out)
 replace FA:=Lib.hid (FA.out.mono hbk)
 replace FB2:=Lib.hid (FB2.out.mono hbk)
 replace BA:=Lib.hid (keepq hbk BA.out)
 replace BB:=Lib.hid (keepq hbk BB.out)
 replace GF:=Lib.hid (GF.out.below hbk)
 replace GP:=Lib.hid (GP.out.below hbk)
 have FS:=Lib.hid (hiS)
 clear hbS hiS hbk rcs ics0 ics1 ics2
 have ics0:=(((show IC (u10.alloc (.cells #[.int .i64 0,.int .i64 1] 3)) (some ⟨u10.heap.size,0,none⟩) 2 [0,1] from ic_lit _ [0,1] (by decide))).mono (keep_alloc (Below.refl _ _) (.cells #[.int .i64 0,.int .i64 1] 3))).mono (keep_alloc (Below.refl _ _) (.cells #[.int .i64 0,.int .i64 1] 3))
 have ics1:=((show IC ((u10.alloc (.cells #[.int .i64 0,.int .i64 1] 3)).alloc (.cells #[.int .i64 0,.int .i64 1] 3)) (some ⟨(u10.alloc (.cells #[.int .i64 0,.int .i64 1] 3)).heap.size,0,none⟩) 2 [0,1] from ic_lit _ [0,1] (by decide))).mono (keep_alloc (Below.refl _ _) (.cells #[.int .i64 0,.int .i64 1] 3))
 have ics2:=(show IC (((u10.alloc (.cells #[.int .i64 0,.int .i64 1] 3)).alloc (.cells #[.int .i64 0,.int .i64 1] 3)).alloc (.cells #[.int .i64 0,.int .i64 1] 3)) (some ⟨((u10.alloc (.cells #[.int .i64 0,.int .i64 1] 3)).alloc (.cells #[.int .i64 0,.int .i64 1] 3)).heap.size,0,none⟩) 2 [0,1] from ic_lit _ [0,1] (by decide))
 have rcs:=Lib.hid (rc_lit3 22 (c1:=2) (c2:=2) (c3:=2) ics0 ics1 ics2 (by omega) (by omega) (by omega))
 simp only[World.size_alloc] at rcs
 go_upto_region 12 with (first|(go_at_call 32;refine (aC_ha _ _ _ rcs.out).mono ?_;rintro _ u11 ⟨a11,c11,rfl,hiS,hbS⟩)|fail)
 have hbk:Below u10.heap.size u10 u11:=keep_trans (keep_alloc (keep_alloc (keep_alloc (keep_alloc (Below.refl _ _) _) _) _) _) hbS
 replace HB:=Lib.hid (keep_trans HB.out hbk)
 replace FC:=Lib.hid (FC.out.mono hbk)
 replace BC:=Lib.hid (keepq hbk BC.out)
 replace FTT:=Lib.hid (FTT.out.mono hbk)
 replace FM:=Lib.hid (FM.out.mono hbk)
 replace BM:=Lib.hid (keepq hbk BM.out)
 replace FA:=Lib.hid (FA.out.mono hbk)
 replace FB2:=Lib.hid (FB2.out.mono hbk)
 replace BA:=Lib.hid (keepq hbk BA.out)
 replace BB:=Lib.hid (keepq hbk BB.out)
 replace GF:=Lib.hid (GF.out.below hbk)
 replace GP:=Lib.hid (GP.out.below hbk)
 replace FS:=Lib.hid (FS.out.mono hbk)
 have FH:=Lib.hid (hiS)
 clear hbS hiS hbk rcs ics0 ics1 ics2
 go_upto_region 14 with fail
 obtain ⟨x0,x1,x2,xl⟩:=c3_of BC.out
 obtain ⟨y0,y1,y2,yl⟩:=c3_of BM.out
 obtain ⟨rb,ro,ra,rn,rc,hra,hrl,hrc,hri,hrk⟩:=FTT.out.2 1 (by omega)
 subst hra
 obtain rfl:3=rn:=hri.len
 have FR:=Lib.hid (show IC u11 ra 3 [1,2,0] from hri)
 clear hri
 refine wp_region_S (fun w'=>∃u,w'=over (u11) u) [] [(0,0),(1,1),(1,2),(1,3),(0,4),(0,5),(0,6),(0,7),(0,8),(0,9),(0,10),(0,11),(0,12),(0,13),(1,14),(1,15),(0,16),(0,17),(0,18),(0,19),(1,20),(1,21),(1,22),(0,23),(0,24)] (by kernel_rfl) (by kernel_rfl) (by exact ⟨_,below_over (by repeat (first|assumption|exact Below.refl _ _|refine keep_drew ?_|refine keep_alloc ?_ _|refine keep_trans ?_ (by assumption)))⟩) ?_
 dsimp only[pickOps,nthOp]
 repeat (first|(refine wpS_skip rfl (fun K hK=>?_);go_big_quiet_op;refine hK _ ?_;clear hK K)|(refine wpS_quiet rfl rfl (fun K hK=>?_);go_big_quiet_op;refine hK _ ?_;clear hK K)|(refine wpS_loud ?_;go_wp2_with (first|(go_at_call 91;refine (lgrid_ic _ _ _ _ X3 _ (by exact ic_lit _ X3 (by decide))).mono ?_;rintro _ ug1 ⟨rfl,icg1,hbg1⟩)|(go_at_call 91;refine (lgrid_ic _ _ _ _ [0,1,2,2,0,1,1,2,0] _ (by exact ic_lit _ [0,1,2,2,0,1,1,2,0] (by decide))).mono ?_;rintro _ ug2 ⟨rfl,icg2,hbg2⟩)|(go_at_call 43;(with_reducible refine (rsame_v 3 3 _ _ _ X3 3 3 _ _ _ X3 _ true (by decide) (FC.out.mono (by (repeat (first|assumption|exact Below.refl _ _|refine keep_drew ?_|refine keep_alloc ?_ _|refine keep_trans ?_ (by assumption))))) icg1).mono ?_);rintro _ us ⟨rfl,hbs⟩)|(go_at_call 43;(with_reducible refine (rsame_v 3 3 _ _ _ [0,1,2,2,0,1,1,2,0] 3 3 _ _ _ [0,1,2,2,0,1,1,2,0] _ true (by decide) (FM.out.mono (by (repeat (first|assumption|exact Below.refl _ _|refine keep_drew ?_|refine keep_alloc ?_ _|refine keep_trans ?_ (by assumption))))) icg2).mono ?_);rintro _ us ⟨rfl,hbs⟩)|(go_at_call 38;refine (same_v _ _ _ _ _ _ [1,2,0] [1,2,0] _ true (by decide) (FR.out.mono (by (repeat (first|assumption|exact Below.refl _ _|refine keep_drew ?_|refine keep_alloc ?_ _|refine keep_trans ?_ (by assumption))))) (by exact ic_lit _ [1,2,0] (by decide))).mono ?_;rintro _ ui ⟨rfl,hbi⟩)|fail);refine ⟨?_,?_⟩;focus (exact ⟨_,below_over (by repeat (first|assumption|exact Below.refl _ _|refine keep_drew ?_|refine keep_alloc ?_ _|refine keep_trans ?_ (by assumption)))⟩)))
 refine wpS_end ?_
 have hbk:Below u11.heap.size u11 us:=by (repeat (first|assumption|exact Below.refl _ _|refine keep_drew ?_|refine keep_alloc ?_ _|refine keep_trans ?_ (by assumption)))
 clear x0 x1 x2 xl y0 y1 y2 yl hrl hrc hrk
 replace HB:=Lib.hid (keep_trans HB.out hbk)
 replace FC:=Lib.hid (FC.out.mono hbk)
 replace BC:=Lib.hid (keepq hbk BC.out)
 replace FTT:=Lib.hid (FTT.out.mono hbk)
 replace FM:=Lib.hid (FM.out.mono hbk)
 replace BM:=Lib.hid (keepq hbk BM.out)
 replace FA:=Lib.hid (FA.out.mono hbk)
 replace FB2:=Lib.hid (FB2.out.mono hbk)
 replace BA:=Lib.hid (keepq hbk BA.out)
 replace BB:=Lib.hid (keepq hbk BB.out)
 replace GF:=Lib.hid (GF.out.below hbk)
 replace GP:=Lib.hid (GP.out.below hbk)
 replace FS:=Lib.hid (FS.out.mono hbk)
 replace FH:=Lib.hid (FH.out.mono hbk)
 replace FR:=Lib.hid (FR.out.mono hbk)
 clear hbk
 clear FTT FR FC BC FM BM
 obtain ⟨x0,x1,x2,xl⟩:=c3_of BA.out
 obtain ⟨y0,y1,y2,yl⟩:=c3_of BB.out
 obtain ⟨gb,go,ga,gc,hga,hgl,hg0,hg1,hg2,hgi,hgk⟩:=GF.out.2 1 (by omega)
 subst hga
 rw[aw_fam.2.1] at hg2 hgi hgk
 obtain ⟨gC,oC,rfl⟩:=ic_at hgi (by omega)
 have hg2':us.cell? ⟨gb,go+5,none⟩=some (.slice (some ⟨gC,oC,none⟩) 16 gc):=hg2
 have FA8:=Lib.hid (FA.out.sub (lo:=8) (hi:=12) (by omega) (by omega))
 have FB8:=Lib.hid (FB2.out.sub (lo:=8) (hi:=12) (by omega) (by omega))
 have FC4:=Lib.hid (hgi.sub (lo:=4) (hi:=8) (by omega) (by omega))
 rw[aw_f4.2.2.2.1] at FA8
 rw[aw_f4.2.2.2.2] at FB8
 rw[aw_fam.2.2] at FC4
 have hcA:=hkA.out
 have hcB:=hkB.out
 have hcA2:(12:Int)≤(c6:Int):=by omega
 have hcB2:(12:Int)≤(c6b:Int):=by omega
 have hcC2:(8:Int)≤(gc:Int):=by omega
 clear hgi
 have HSA:Hid (∀W b k1 k2,Below us.heap.size us W→IC W b 4 [2,3,0,1]→Calls Tryz.prog 38 #[.slice (some ⟨gA,oA+8,none⟩) 4 k1,.slice b 4 k2] W fun e w'=>e = .returned (.bool true)∧Below W.heap.size W w'):=fun W b k1 k2 hb hi=>same_v _ _ _ _ _ _ [2,3,0,1] [2,3,0,1] W true (by decide) (FA8.out.mono hb) hi
 have HSB:Hid (∀W b k1 k2,Below us.heap.size us W→IC W b 4 [0,2,3,1]→Calls Tryz.prog 38 #[.slice (some ⟨gB,oB+8,none⟩) 4 k1,.slice b 4 k2] W fun e w'=>e = .returned (.bool true)∧Below W.heap.size W w'):=fun W b k1 k2 hb hi=>same_v _ _ _ _ _ _ [0,2,3,1] [0,2,3,1] W true (by decide) (FB8.out.mono hb) hi
 have HSC:Hid (∀W b k1 k2,Below us.heap.size us W→IC W b 4 [2,3,0,1]→Calls Tryz.prog 38 #[.slice (some ⟨gC,oC+4,none⟩) 4 k1,.slice b 4 k2] W fun e w'=>e = .returned (.bool true)∧Below W.heap.size W w'):=fun W b k1 k2 hb hi=>same_v _ _ _ _ _ _ [2,3,0,1] [2,3,0,1] W true (by decide) (FC4.out.mono hb) hi
 go_upto_region 18 with (first|(go_at_call 38;(with_reducible refine (HSA.out _ _ _ _ ?_ ?_).mono ?_);(focus ((repeat (first|assumption|exact Below.refl _ _|refine keep_drew ?_|refine keep_alloc ?_ _|refine keep_trans ?_ (by assumption)))));(focus (exact ic_lit _ [2,3,0,1] (by decide)));rintro _ ui1 ⟨rfl,hbi1⟩;have hq1:Below us.heap.size us ui1:=(by (repeat (first|assumption|exact Below.refl _ _|refine keep_drew ?_|refine keep_alloc ?_ _|refine keep_trans ?_ (by assumption))));have y2q:=(hq1.cell (p:=⟨u6.heap.size+1,2,none⟩) yl).trans y2;have hg2q:=(hq1.cell (p:=⟨gb,go+5,none⟩) hgl).trans hg2')|(go_at_call 38;(with_reducible refine (HSB.out _ _ _ _ ?_ ?_).mono ?_);(focus ((repeat (first|assumption|exact Below.refl _ _|refine keep_drew ?_|refine keep_alloc ?_ _|refine keep_trans ?_ (by assumption)))));(focus (exact ic_lit _ [0,2,3,1] (by decide)));rintro _ ui2 ⟨rfl,hbi2⟩;have hq2:Below us.heap.size us ui2:=(by (repeat (first|assumption|exact Below.refl _ _|refine keep_drew ?_|refine keep_alloc ?_ _|refine keep_trans ?_ (by assumption))));have hg2r:=(hq2.cell (p:=⟨gb,go+5,none⟩) hgl).trans hg2')|(go_at_call 38;(with_reducible refine (HSC.out _ _ _ _ ?_ ?_).mono ?_);(focus ((repeat (first|assumption|exact Below.refl _ _|refine keep_drew ?_|refine keep_alloc ?_ _|refine keep_trans ?_ (by assumption)))));(focus (exact ic_lit _ [2,3,0,1] (by decide)));rintro _ ui3 ⟨rfl,hbi3⟩)|fail)
 have hbk:Below us.heap.size us ui3:=by (repeat (first|assumption|exact Below.refl _ _|refine keep_drew ?_|refine keep_alloc ?_ _|refine keep_trans ?_ (by assumption)))
 clear x0 x1 x2 xl y0 y1 y2 yl hgl hg0 hg1 hg2 hg2' hgk HSA HSB HSC FA8 FB8 FC4 hcA hcB hcA2 hcB2 hcC2 hkA hkB hbs hbi hbg1 hbg2
 replace HB:=Lib.hid (keep_trans HB.out hbk)
 replace GP:=Lib.hid (GP.out.below hbk)
 replace FS:=Lib.hid (FS.out.mono hbk)
 replace FH:=Lib.hid (FH.out.mono hbk)
 clear FA FB2 BA BB GF y2q hg2q hg2r hq1 hq2 hbi1 hbi2 hbi3 hbk
 go_upto_region 19 with (first|(go_at_call 40;refine (aC_ex _ _ (by exact ic_lit _ [0,1,2] (by decide))).mono ?_;rintro _ u18 ⟨a18,c18,rfl,hi18,hk18,hb18⟩)|fail)
 have fsz:(u18.alloc (.cells #[.int .i64 2,.int .i64 3,.slice a18 6 c18] 24)).heap.size=u18.heap.size+1:=by simp only[World.size_alloc]
 have fB:Below u18.heap.size u18 (u18.alloc (.cells #[.int .i64 2,.int .i64 3,.slice a18 6 c18] 24)):=(Below.refl _ _).alloc (Nat.le_refl _) _
 have fq0:(u18.alloc (.cells #[.int .i64 2,.int .i64 3,.slice a18 6 c18] 24)).heap[u18.heap.size]?=some (.cells #[.int .i64 2,.int .i64 3,.slice a18 6 c18] 24 (0,0)):=by have h:=World.alloc_heap_new u18 (.cells #[.int .i64 2,.int .i64 3,.slice a18 6 c18] 24);exact h
 generalize (u18.alloc (.cells #[.int .i64 2,.int .i64 3,.slice a18 6 c18] 24))=V18 at fsz fB fq0 ⊢
 have hbk:Below ui3.heap.size ui3 V18:=keep_trans (keep_trans (keep_alloc (Below.refl _ _) _) hb18) fB
 replace HB:=Lib.hid (keep_trans HB.out hbk)
 replace GP:=Lib.hid (GP.out.below hbk)
 replace FS:=Lib.hid (FS.out.mono hbk)
 replace FH:=Lib.hid (FH.out.mono hbk)
 have FE:=Lib.hid (hi18.mono fB)
 have BE:=Lib.hid (fq0)
 clear hb18 hi18 hbk fB fq0 fsz hk18
 go_upto_region 20 with (first|(go_at_call 91;refine (lgrid_ic _ _ _ _ [1,0,0,1] _ (by exact ic_lit _ [1,0,0,1] (by decide))).mono ?_;rintro _ ug ⟨rfl,icg,hbg⟩)|(go_at_call 83;refine (aC_re _ _ icg).mono ?_;rintro _ u19 ⟨a19,c19,rfl,hi19,hk19,hb19⟩)|fail)
 have fsz:(u19.alloc (.cells #[.int .i64 2,.int .i64 2,.slice a19 4 c19] 24)).heap.size=u19.heap.size+1:=by simp only[World.size_alloc]
 have fB:Below u19.heap.size u19 (u19.alloc (.cells #[.int .i64 2,.int .i64 2,.slice a19 4 c19] 24)):=(Below.refl _ _).alloc (Nat.le_refl _) _
 have fq0:(u19.alloc (.cells #[.int .i64 2,.int .i64 2,.slice a19 4 c19] 24)).heap[u19.heap.size]?=some (.cells #[.int .i64 2,.int .i64 2,.slice a19 4 c19] 24 (0,0)):=by have h:=World.alloc_heap_new u19 (.cells #[.int .i64 2,.int .i64 2,.slice a19 4 c19] 24);exact h
 generalize (u19.alloc (.cells #[.int .i64 2,.int .i64 2,.slice a19 4 c19] 24))=V19 at fsz fB fq0 ⊢
 have hbk:Below V18.heap.size V18 V19:=keep_trans (keep_trans (keep_trans (keep_alloc (Below.refl _ _) _) hbg) hb19) fB
 replace HB:=Lib.hid (keep_trans HB.out hbk)
 replace GP:=Lib.hid (GP.out.below hbk)
 replace FS:=Lib.hid (FS.out.mono hbk)
 replace FH:=Lib.hid (FH.out.mono hbk)
 replace FE:=Lib.hid (FE.out.mono hbk)
 replace BE:=Lib.hid (keepq hbk BE.out)
 have FD:=Lib.hid (hi19.mono fB)
 have BD:=Lib.hid (fq0)
 clear hbg hb19 hi19 icg hbk fB fq0 fsz hk19
 go_upto_region 21 with (first|(go_at_call 91;refine (lgrid_ic _ _ _ _ [0,1,1,0] _ (by exact ic_lit _ [0,1,1,0] (by decide))).mono ?_;rintro _ ug ⟨rfl,icg,hbg⟩)|(go_at_call 74;refine (aC_in _ _ _ icg).mono ?_;rintro _ u20 ⟨rfl,hb20⟩)|fail)
 have hbk:Below V19.heap.size V19 u20:=keep_trans (keep_trans (keep_alloc (Below.refl _ _) _) hbg) hb20
 replace HB:=Lib.hid (keep_trans HB.out hbk)
 replace GP:=Lib.hid (GP.out.below hbk)
 replace FS:=Lib.hid (FS.out.mono hbk)
 replace FH:=Lib.hid (FH.out.mono hbk)
 replace FE:=Lib.hid (FE.out.mono hbk)
 replace BE:=Lib.hid (keepq hbk BE.out)
 replace FD:=Lib.hid (FD.out.mono hbk)
 replace BD:=Lib.hid (keepq hbk BD.out)
 clear hbg hb20 icg hbk
 go_upto_region 22 with (first|(go_at_call 91;refine (lgrid_ic _ _ _ _ [0,1,1,0] _ (by exact ic_lit _ [0,1,1,0] (by decide))).mono ?_;rintro _ ug ⟨rfl,icg,hbg⟩)|(go_at_call 72;refine (aC_ki _ _ icg).mono ?_;rintro _ u21 ⟨gk,ck,rfl,hkc,hkl,hb21⟩)|fail)
 have hbk:Below u20.heap.size u20 u21:=keep_trans (keep_trans (keep_alloc (Below.refl _ _) _) hbg) hb21
 replace HB:=Lib.hid (keep_trans HB.out hbk)
 replace GP:=Lib.hid (GP.out.below hbk)
 replace FS:=Lib.hid (FS.out.mono hbk)
 replace FH:=Lib.hid (FH.out.mono hbk)
 replace FE:=Lib.hid (FE.out.mono hbk)
 replace BE:=Lib.hid (keepq hbk BE.out)
 replace FD:=Lib.hid (FD.out.mono hbk)
 replace BD:=Lib.hid (keepq hbk BD.out)
 clear hbg hb21 icg hbk
 obtain ⟨x0,x1,x2,xl⟩:=c3_of BE.out
 obtain ⟨y0,y1,y2,yl⟩:=c3_of BD.out
 have ks1:=kS3_eq
 have ks2:=kS3_beq
 refine wp_region_S (fun w'=>∃u,w'=over (u21) u) [] [(0,0),(0,1),(0,2),(0,3),(0,4),(0,5),(0,6),(0,7),(0,8),(0,9),(0,10),(1,11),(1,12),(0,13),(0,14),(0,15),(0,16),(1,17),(1,18),(1,19),(0,20),(0,21),(0,22),(0,23),(0,24),(0,25),(0,26),(0,27),(0,28),(0,29),(0,30),(0,31),(0,32),(0,33),(0,34),(0,35),(0,36)] (by kernel_rfl) (by kernel_rfl) (by exact ⟨_,below_over (by repeat (first|assumption|exact Below.refl _ _|refine keep_drew ?_|refine keep_alloc ?_ _|refine keep_trans ?_ (by assumption)))⟩) ?_
 dsimp only[pickOps,nthOp]
 repeat (first|(refine wpS_skip rfl (fun K hK=>?_);go_big_quiet_op;refine hK _ ?_;clear hK K)|(refine wpS_quiet rfl rfl (fun K hK=>?_);go_big_quiet_op;refine hK _ ?_;clear hK K)|(refine wpS_loud ?_;go_wp2_with (first|(go_at_call 91;refine (lgrid_ic _ _ _ _ [0,1,1,0] _ (by exact ic_lit _ [0,1,1,0] (by decide))).mono ?_;rintro _ ug ⟨rfl,icg,hbg⟩)|(go_at_call 43;(with_reducible refine (rsame_v 2 2 _ _ _ [0,1,1,0] 2 2 _ _ _ [0,1,1,0] _ true (by decide) (FD.out.mono (by (repeat (first|assumption|exact Below.refl _ _|refine keep_drew ?_|refine keep_alloc ?_ _|refine keep_trans ?_ (by assumption))))) icg).mono ?_);rintro _ us ⟨rfl,hbs⟩)|(go_at_call 38;refine (same_v _ _ _ _ _ _ [0,1,2,1,2,0] [0,1,2,1,2,0] _ true (by decide) (FE.out.mono (by (repeat (first|assumption|exact Below.refl _ _|refine keep_drew ?_|refine keep_alloc ?_ _|refine keep_trans ?_ (by assumption))))) (by exact ic_lit _ [0,1,2,1,2,0] (by decide))).mono ?_;rintro _ ui4 ⟨rfl,hbi4⟩)|fail);refine ⟨?_,?_⟩;focus (exact ⟨_,below_over (by repeat (first|assumption|exact Below.refl _ _|refine keep_drew ?_|refine keep_alloc ?_ _|refine keep_trans ?_ (by assumption)))⟩)))
 refine wpS_end ?_
 have hbk:Below u21.heap.size u21 us:=by (repeat (first|assumption|exact Below.refl _ _|refine keep_drew ?_|refine keep_alloc ?_ _|refine keep_trans ?_ (by assumption)))
 clear x0 x1 x2 xl y0 y1 y2 yl ks1 ks2 hkc hkl
 replace HB:=Lib.hid (keep_trans HB.out hbk)
 replace GP:=Lib.hid (GP.out.below hbk)
 replace FS:=Lib.hid (FS.out.mono hbk)
 replace FH:=Lib.hid (FH.out.mono hbk)
 clear FE BE FD BD hbk hbs hbg
 obtain ⟨pb,po,pa,pn,hpa,hpl,hp0,hp1,hp2,hpi,hpk⟩:=GP.out.2 0 (by omega)
 subst hpa
 have hp0':us.cell? ⟨pb,po,none⟩=some (.int .i64 2):=hp0
 have hp1':us.cell? ⟨pb,po+1,none⟩=some (.int .i64 2):=hp1
 have hp2':us.cell? ⟨pb,po+2,none⟩=some (.slice pa 4 pn):=hp2
 have FP:Hid (IC us pa 4 [0,1,1,0]):=hpi
 clear hp0 hp1 hp2 hpi hpk GP
 go_upto_region 24 with fail
 have HSS:Hid (∀W b k1 k2,Below us.heap.size us W→IC W b 3 [1,0,2]→Calls Tryz.prog 38 #[.slice a10 3 k1,.slice b 3 k2] W fun e w'=>e = .returned (.bool true)∧Below W.heap.size W w'):=fun W b k1 k2 hb hi=>same_v _ _ _ _ _ _ [1,0,2] [1,0,2] W true (by decide) (FS.out.mono hb) hi
 have HSH:Hid (∀W b k1 k2,Below us.heap.size us W→IC W b 3 [0,1,2]→Calls Tryz.prog 38 #[.slice a11 3 k1,.slice b 3 k2] W fun e w'=>e = .returned (.bool true)∧Below W.heap.size W w'):=fun W b k1 k2 hb hi=>same_v _ _ _ _ _ _ [0,1,2] [0,1,2] W true (by decide) (FH.out.mono hb) hi
 refine wp_region_tree3 (fun w'=>∃u,w'=over (us) u) [] (.step [0,1,2,3,4,5,6] 7 (.step [] 8 (.step [] 9 (.step [10,11,12] 13 (.step [] 14 (.step [15,16,17] 18 (.step [] 19 (.fork3 [20,21,26] 22 23 24 (.fork [] 23 24 (.leaf [(1,24),(1,25),(1,27),(0,28),(0,29),(1,30)]) (.leaf [(1,23),(1,25),(1,27),(0,28),(0,29),(1,30)])) (.fork [] 22 24 (.leaf [(1,24),(1,25),(1,27),(0,28),(0,29),(1,30)]) (.leaf [(1,22),(1,25),(1,27),(0,28),(0,29),(1,30)])) (.fork [] 22 23 (.leaf [(1,23),(1,25),(1,27),(0,28),(0,29),(1,30)]) (.leaf [(1,22),(1,25),(1,27),(0,28),(0,29),(1,30)])))))))))) (by kernel_rfl) (by kernel_rfl) (by exact ⟨_,below_over (by repeat (first|assumption|exact Below.refl _ _|refine keep_drew ?_|refine keep_alloc ?_ _|refine keep_trans ?_ (by assumption)))⟩) ?_
 refine wpTr3_step ?_
 dsimp only[List.map,List.cons_append,List.nil_append,pickOps,nthOp]
 repeat (first|(refine wpS_skip rfl (fun K hK=>?_);go_big_quiet_op;refine hK _ ?_;clear hK K)|(refine wpS_quiet rfl rfl (fun K hK=>?_);go_big_quiet_op;refine hK _ ?_;clear hK K)|(refine wpS_loud ?_;go_wp2_with (first|(go_at_call 91;refine (lgrid_ic _ _ _ _ [0,1,1,0] _ (by exact ic_lit _ [0,1,1,0] (by decide))).mono ?_;rintro _ ug ⟨rfl,icg,hbg⟩)|(go_at_call 43;(with_reducible refine (rsame_v 2 2 _ _ _ [0,1,1,0] 2 2 _ _ _ [0,1,1,0] _ true (by decide) (FP.out.mono (by (repeat (first|assumption|exact Below.refl _ _|refine keep_drew ?_|refine keep_alloc ?_ _|refine keep_trans ?_ (by assumption))))) icg).mono ?_);rintro _ ut ⟨rfl,hbt⟩)|(go_at_call 38;(with_reducible refine (HSS.out _ _ _ _ ?_ ?_).mono ?_);(focus ((repeat (first|assumption|exact Below.refl _ _|refine keep_drew ?_|refine keep_alloc ?_ _|refine keep_trans ?_ (by assumption)))));(focus (exact ic_lit _ [1,0,2] (by decide)));rintro _ ui5 ⟨rfl,hbi5⟩)|(go_at_call 38;(with_reducible refine (HSH.out _ _ _ _ ?_ ?_).mono ?_);(focus ((repeat (first|assumption|exact Below.refl _ _|refine keep_drew ?_|refine keep_alloc ?_ _|refine keep_trans ?_ (by assumption)))));(focus (exact ic_lit _ [0,1,2] (by decide)));rintro _ ui6 ⟨rfl,hbi6⟩)|(go_at_call 33;refine (aC_ch _ _ _ _ _ (rc_same3 _ _ _ _ _ (by first|exact .inl rfl|exact .inr (.inl rfl)|exact .inr (.inr rfl)) (by first|exact .inl rfl|exact .inr (.inl rfl)|exact .inr (.inr rfl)) (by first|exact .inl rfl|exact .inr (.inl rfl)|exact .inr (.inr rfl))) (FH.out.mono (by (repeat (first|assumption|exact Below.refl _ _|refine keep_drew ?_|refine keep_alloc ?_ _|refine keep_trans ?_ (by assumption)))))).mono ?_;rintro _ uc ⟨rfl,hbc⟩)|fail);refine ⟨?_,?_⟩;focus (exact ⟨_,below_over (by repeat (first|assumption|exact Below.refl _ _|refine keep_drew ?_|refine keep_alloc ?_ _|refine keep_set ?_ (by first|omega|(dsimp only;omega)) _|refine keep_trans ?_ (by assumption)))⟩)))
 refine wpTr_end ?_
 refine wpTr3_step ?_
 dsimp only[List.map,List.cons_append,List.nil_append,pickOps,nthOp]
 repeat (first|(refine wpS_skip rfl (fun K hK=>?_);go_big_quiet_op;refine hK _ ?_;clear hK K)|(refine wpS_quiet rfl rfl (fun K hK=>?_);go_big_quiet_op;refine hK _ ?_;clear hK K)|(refine wpS_loud ?_;go_wp2_with (first|(go_at_call 91;refine (lgrid_ic _ _ _ _ [0,1,1,0] _ (by exact ic_lit _ [0,1,1,0] (by decide))).mono ?_;rintro _ ug ⟨rfl,icg,hbg⟩)|(go_at_call 43;(with_reducible refine (rsame_v 2 2 _ _ _ [0,1,1,0] 2 2 _ _ _ [0,1,1,0] _ true (by decide) (FP.out.mono (by (repeat (first|assumption|exact Below.refl _ _|refine keep_drew ?_|refine keep_alloc ?_ _|refine keep_trans ?_ (by assumption))))) icg).mono ?_);rintro _ ut ⟨rfl,hbt⟩)|(go_at_call 38;(with_reducible refine (HSS.out _ _ _ _ ?_ ?_).mono ?_);(focus ((repeat (first|assumption|exact Below.refl _ _|refine keep_drew ?_|refine keep_alloc ?_ _|refine keep_trans ?_ (by assumption)))));(focus (exact ic_lit _ [1,0,2] (by decide)));rintro _ ui5 ⟨rfl,hbi5⟩)|(go_at_call 38;(with_reducible refine (HSH.out _ _ _ _ ?_ ?_).mono ?_);(focus ((repeat (first|assumption|exact Below.refl _ _|refine keep_drew ?_|refine keep_alloc ?_ _|refine keep_trans ?_ (by assumption)))));(focus (exact ic_lit _ [0,1,2] (by decide)));rintro _ ui6 ⟨rfl,hbi6⟩)|(go_at_call 33;refine (aC_ch _ _ _ _ _ (rc_same3 _ _ _ _ _ (by first|exact .inl rfl|exact .inr (.inl rfl)|exact .inr (.inr rfl)) (by first|exact .inl rfl|exact .inr (.inl rfl)|exact .inr (.inr rfl)) (by first|exact .inl rfl|exact .inr (.inl rfl)|exact .inr (.inr rfl))) (FH.out.mono (by (repeat (first|assumption|exact Below.refl _ _|refine keep_drew ?_|refine keep_alloc ?_ _|refine keep_trans ?_ (by assumption)))))).mono ?_;rintro _ uc ⟨rfl,hbc⟩)|fail);refine ⟨?_,?_⟩;focus (exact ⟨_,below_over (by repeat (first|assumption|exact Below.refl _ _|refine keep_drew ?_|refine keep_alloc ?_ _|refine keep_set ?_ (by first|omega|(dsimp only;omega)) _|refine keep_trans ?_ (by assumption)))⟩)))
 refine wpTr_end ?_
 refine wpTr3_step ?_
 dsimp only[List.map,List.cons_append,List.nil_append,pickOps,nthOp]
 repeat (first|(refine wpS_skip rfl (fun K hK=>?_);go_big_quiet_op;refine hK _ ?_;clear hK K)|(refine wpS_quiet rfl rfl (fun K hK=>?_);go_big_quiet_op;refine hK _ ?_;clear hK K)|(refine wpS_loud ?_;go_wp2_with (first|(go_at_call 91;refine (lgrid_ic _ _ _ _ [0,1,1,0] _ (by exact ic_lit _ [0,1,1,0] (by decide))).mono ?_;rintro _ ug ⟨rfl,icg,hbg⟩)|(go_at_call 43;(with_reducible refine (rsame_v 2 2 _ _ _ [0,1,1,0] 2 2 _ _ _ [0,1,1,0] _ true (by decide) (FP.out.mono (by (repeat (first|assumption|exact Below.refl _ _|refine keep_drew ?_|refine keep_alloc ?_ _|refine keep_trans ?_ (by assumption))))) icg).mono ?_);rintro _ ut ⟨rfl,hbt⟩)|(go_at_call 38;(with_reducible refine (HSS.out _ _ _ _ ?_ ?_).mono ?_);(focus ((repeat (first|assumption|exact Below.refl _ _|refine keep_drew ?_|refine keep_alloc ?_ _|refine keep_trans ?_ (by assumption)))));(focus (exact ic_lit _ [1,0,2] (by decide)));rintro _ ui5 ⟨rfl,hbi5⟩)|(go_at_call 38;(with_reducible refine (HSH.out _ _ _ _ ?_ ?_).mono ?_);(focus ((repeat (first|assumption|exact Below.refl _ _|refine keep_drew ?_|refine keep_alloc ?_ _|refine keep_trans ?_ (by assumption)))));(focus (exact ic_lit _ [0,1,2] (by decide)));rintro _ ui6 ⟨rfl,hbi6⟩)|(go_at_call 33;refine (aC_ch _ _ _ _ _ (rc_same3 _ _ _ _ _ (by first|exact .inl rfl|exact .inr (.inl rfl)|exact .inr (.inr rfl)) (by first|exact .inl rfl|exact .inr (.inl rfl)|exact .inr (.inr rfl)) (by first|exact .inl rfl|exact .inr (.inl rfl)|exact .inr (.inr rfl))) (FH.out.mono (by (repeat (first|assumption|exact Below.refl _ _|refine keep_drew ?_|refine keep_alloc ?_ _|refine keep_trans ?_ (by assumption)))))).mono ?_;rintro _ uc ⟨rfl,hbc⟩)|fail);refine ⟨?_,?_⟩;focus (exact ⟨_,below_over (by repeat (first|assumption|exact Below.refl _ _|refine keep_drew ?_|refine keep_alloc ?_ _|refine keep_set ?_ (by first|omega|(dsimp only;omega)) _|refine keep_trans ?_ (by assumption)))⟩)))
 refine wpTr_end ?_
 refine wpTr3_step ?_
 dsimp only[List.map,List.cons_append,List.nil_append,pickOps,nthOp]
 repeat (first|(refine wpS_skip rfl (fun K hK=>?_);go_big_quiet_op;refine hK _ ?_;clear hK K)|(refine wpS_quiet rfl rfl (fun K hK=>?_);go_big_quiet_op;refine hK _ ?_;clear hK K)|(refine wpS_loud ?_;go_wp2_with (first|(go_at_call 91;refine (lgrid_ic _ _ _ _ [0,1,1,0] _ (by exact ic_lit _ [0,1,1,0] (by decide))).mono ?_;rintro _ ug ⟨rfl,icg,hbg⟩)|(go_at_call 43;(with_reducible refine (rsame_v 2 2 _ _ _ [0,1,1,0] 2 2 _ _ _ [0,1,1,0] _ true (by decide) (FP.out.mono (by (repeat (first|assumption|exact Below.refl _ _|refine keep_drew ?_|refine keep_alloc ?_ _|refine keep_trans ?_ (by assumption))))) icg).mono ?_);rintro _ ut ⟨rfl,hbt⟩)|(go_at_call 38;(with_reducible refine (HSS.out _ _ _ _ ?_ ?_).mono ?_);(focus ((repeat (first|assumption|exact Below.refl _ _|refine keep_drew ?_|refine keep_alloc ?_ _|refine keep_trans ?_ (by assumption)))));(focus (exact ic_lit _ [1,0,2] (by decide)));rintro _ ui5 ⟨rfl,hbi5⟩)|(go_at_call 38;(with_reducible refine (HSH.out _ _ _ _ ?_ ?_).mono ?_);(focus ((repeat (first|assumption|exact Below.refl _ _|refine keep_drew ?_|refine keep_alloc ?_ _|refine keep_trans ?_ (by assumption)))));(focus (exact ic_lit _ [0,1,2] (by decide)));rintro _ ui6 ⟨rfl,hbi6⟩)|(go_at_call 33;refine (aC_ch _ _ _ _ _ (rc_same3 _ _ _ _ _ (by first|exact .inl rfl|exact .inr (.inl rfl)|exact .inr (.inr rfl)) (by first|exact .inl rfl|exact .inr (.inl rfl)|exact .inr (.inr rfl)) (by first|exact .inl rfl|exact .inr (.inl rfl)|exact .inr (.inr rfl))) (FH.out.mono (by (repeat (first|assumption|exact Below.refl _ _|refine keep_drew ?_|refine keep_alloc ?_ _|refine keep_trans ?_ (by assumption)))))).mono ?_;rintro _ uc ⟨rfl,hbc⟩)|fail);refine ⟨?_,?_⟩;focus (exact ⟨_,below_over (by repeat (first|assumption|exact Below.refl _ _|refine keep_drew ?_|refine keep_alloc ?_ _|refine keep_set ?_ (by first|omega|(dsimp only;omega)) _|refine keep_trans ?_ (by assumption)))⟩)))
 refine wpTr_end ?_
 refine wpTr3_step ?_
 dsimp only[List.map,List.cons_append,List.nil_append,pickOps,nthOp]
 repeat (first|(refine wpS_skip rfl (fun K hK=>?_);go_big_quiet_op;refine hK _ ?_;clear hK K)|(refine wpS_quiet rfl rfl (fun K hK=>?_);go_big_quiet_op;refine hK _ ?_;clear hK K)|(refine wpS_loud ?_;go_wp2_with (first|(go_at_call 91;refine (lgrid_ic _ _ _ _ [0,1,1,0] _ (by exact ic_lit _ [0,1,1,0] (by decide))).mono ?_;rintro _ ug ⟨rfl,icg,hbg⟩)|(go_at_call 43;(with_reducible refine (rsame_v 2 2 _ _ _ [0,1,1,0] 2 2 _ _ _ [0,1,1,0] _ true (by decide) (FP.out.mono (by (repeat (first|assumption|exact Below.refl _ _|refine keep_drew ?_|refine keep_alloc ?_ _|refine keep_trans ?_ (by assumption))))) icg).mono ?_);rintro _ ut ⟨rfl,hbt⟩)|(go_at_call 38;(with_reducible refine (HSS.out _ _ _ _ ?_ ?_).mono ?_);(focus ((repeat (first|assumption|exact Below.refl _ _|refine keep_drew ?_|refine keep_alloc ?_ _|refine keep_trans ?_ (by assumption)))));(focus (exact ic_lit _ [1,0,2] (by decide)));rintro _ ui5 ⟨rfl,hbi5⟩)|(go_at_call 38;(with_reducible refine (HSH.out _ _ _ _ ?_ ?_).mono ?_);(focus ((repeat (first|assumption|exact Below.refl _ _|refine keep_drew ?_|refine keep_alloc ?_ _|refine keep_trans ?_ (by assumption)))));(focus (exact ic_lit _ [0,1,2] (by decide)));rintro _ ui6 ⟨rfl,hbi6⟩)|(go_at_call 33;refine (aC_ch _ _ _ _ _ (rc_same3 _ _ _ _ _ (by first|exact .inl rfl|exact .inr (.inl rfl)|exact .inr (.inr rfl)) (by first|exact .inl rfl|exact .inr (.inl rfl)|exact .inr (.inr rfl)) (by first|exact .inl rfl|exact .inr (.inl rfl)|exact .inr (.inr rfl))) (FH.out.mono (by (repeat (first|assumption|exact Below.refl _ _|refine keep_drew ?_|refine keep_alloc ?_ _|refine keep_trans ?_ (by assumption)))))).mono ?_;rintro _ uc ⟨rfl,hbc⟩)|fail);refine ⟨?_,?_⟩;focus (exact ⟨_,below_over (by repeat (first|assumption|exact Below.refl _ _|refine keep_drew ?_|refine keep_alloc ?_ _|refine keep_set ?_ (by first|omega|(dsimp only;omega)) _|refine keep_trans ?_ (by assumption)))⟩)))
 refine wpTr_end ?_
 refine wpTr3_step ?_
 dsimp only[List.map,List.cons_append,List.nil_append,pickOps,nthOp]
 repeat (first|(refine wpS_skip rfl (fun K hK=>?_);go_big_quiet_op;refine hK _ ?_;clear hK K)|(refine wpS_quiet rfl rfl (fun K hK=>?_);go_big_quiet_op;refine hK _ ?_;clear hK K)|(refine wpS_loud ?_;go_wp2_with (first|(go_at_call 91;refine (lgrid_ic _ _ _ _ [0,1,1,0] _ (by exact ic_lit _ [0,1,1,0] (by decide))).mono ?_;rintro _ ug ⟨rfl,icg,hbg⟩)|(go_at_call 43;(with_reducible refine (rsame_v 2 2 _ _ _ [0,1,1,0] 2 2 _ _ _ [0,1,1,0] _ true (by decide) (FP.out.mono (by (repeat (first|assumption|exact Below.refl _ _|refine keep_drew ?_|refine keep_alloc ?_ _|refine keep_trans ?_ (by assumption))))) icg).mono ?_);rintro _ ut ⟨rfl,hbt⟩)|(go_at_call 38;(with_reducible refine (HSS.out _ _ _ _ ?_ ?_).mono ?_);(focus ((repeat (first|assumption|exact Below.refl _ _|refine keep_drew ?_|refine keep_alloc ?_ _|refine keep_trans ?_ (by assumption)))));(focus (exact ic_lit _ [1,0,2] (by decide)));rintro _ ui5 ⟨rfl,hbi5⟩)|(go_at_call 38;(with_reducible refine (HSH.out _ _ _ _ ?_ ?_).mono ?_);(focus ((repeat (first|assumption|exact Below.refl _ _|refine keep_drew ?_|refine keep_alloc ?_ _|refine keep_trans ?_ (by assumption)))));(focus (exact ic_lit _ [0,1,2] (by decide)));rintro _ ui6 ⟨rfl,hbi6⟩)|(go_at_call 33;refine (aC_ch _ _ _ _ _ (rc_same3 _ _ _ _ _ (by first|exact .inl rfl|exact .inr (.inl rfl)|exact .inr (.inr rfl)) (by first|exact .inl rfl|exact .inr (.inl rfl)|exact .inr (.inr rfl)) (by first|exact .inl rfl|exact .inr (.inl rfl)|exact .inr (.inr rfl))) (FH.out.mono (by (repeat (first|assumption|exact Below.refl _ _|refine keep_drew ?_|refine keep_alloc ?_ _|refine keep_trans ?_ (by assumption)))))).mono ?_;rintro _ uc ⟨rfl,hbc⟩)|fail);refine ⟨?_,?_⟩;focus (exact ⟨_,below_over (by repeat (first|assumption|exact Below.refl _ _|refine keep_drew ?_|refine keep_alloc ?_ _|refine keep_set ?_ (by first|omega|(dsimp only;omega)) _|refine keep_trans ?_ (by assumption)))⟩)))
 refine wpTr_end ?_
 refine wpTr3_step ?_
 dsimp only[List.map,List.cons_append,List.nil_append,pickOps,nthOp]
 repeat (first|(refine wpS_skip rfl (fun K hK=>?_);go_big_quiet_op;refine hK _ ?_;clear hK K)|(refine wpS_quiet rfl rfl (fun K hK=>?_);go_big_quiet_op;refine hK _ ?_;clear hK K)|(refine wpS_loud ?_;go_wp2_with (first|(go_at_call 91;refine (lgrid_ic _ _ _ _ [0,1,1,0] _ (by exact ic_lit _ [0,1,1,0] (by decide))).mono ?_;rintro _ ug ⟨rfl,icg,hbg⟩)|(go_at_call 43;(with_reducible refine (rsame_v 2 2 _ _ _ [0,1,1,0] 2 2 _ _ _ [0,1,1,0] _ true (by decide) (FP.out.mono (by (repeat (first|assumption|exact Below.refl _ _|refine keep_drew ?_|refine keep_alloc ?_ _|refine keep_trans ?_ (by assumption))))) icg).mono ?_);rintro _ ut ⟨rfl,hbt⟩)|(go_at_call 38;(with_reducible refine (HSS.out _ _ _ _ ?_ ?_).mono ?_);(focus ((repeat (first|assumption|exact Below.refl _ _|refine keep_drew ?_|refine keep_alloc ?_ _|refine keep_trans ?_ (by assumption)))));(focus (exact ic_lit _ [1,0,2] (by decide)));rintro _ ui5 ⟨rfl,hbi5⟩)|(go_at_call 38;(with_reducible refine (HSH.out _ _ _ _ ?_ ?_).mono ?_);(focus ((repeat (first|assumption|exact Below.refl _ _|refine keep_drew ?_|refine keep_alloc ?_ _|refine keep_trans ?_ (by assumption)))));(focus (exact ic_lit _ [0,1,2] (by decide)));rintro _ ui6 ⟨rfl,hbi6⟩)|(go_at_call 33;refine (aC_ch _ _ _ _ _ (rc_same3 _ _ _ _ _ (by first|exact .inl rfl|exact .inr (.inl rfl)|exact .inr (.inr rfl)) (by first|exact .inl rfl|exact .inr (.inl rfl)|exact .inr (.inr rfl)) (by first|exact .inl rfl|exact .inr (.inl rfl)|exact .inr (.inr rfl))) (FH.out.mono (by (repeat (first|assumption|exact Below.refl _ _|refine keep_drew ?_|refine keep_alloc ?_ _|refine keep_trans ?_ (by assumption)))))).mono ?_;rintro _ uc ⟨rfl,hbc⟩)|fail);refine ⟨?_,?_⟩;focus (exact ⟨_,below_over (by repeat (first|assumption|exact Below.refl _ _|refine keep_drew ?_|refine keep_alloc ?_ _|refine keep_set ?_ (by first|omega|(dsimp only;omega)) _|refine keep_trans ?_ (by assumption)))⟩)))
 refine wpTr_end ?_
 all_goals try (first|(refine ⟨?_,?_,?_⟩ <;> dsimp only[List.map,List.cons_append,List.nil_append,pickOps,nthOp])|(refine ⟨?_,?_⟩ <;> dsimp only[List.map,List.cons_append,List.nil_append,pickOps,nthOp]))
 all_goals repeat (first|(refine wpS_skip rfl (fun K hK=>?_);go_big_quiet_op;refine hK _ ?_;clear hK K)|(refine wpS_quiet rfl rfl (fun K hK=>?_);go_big_quiet_op;refine hK _ ?_;clear hK K)|(refine wpS_loud ?_;go_wp2_with (first|(go_at_call 91;refine (lgrid_ic _ _ _ _ [0,1,1,0] _ (by exact ic_lit _ [0,1,1,0] (by decide))).mono ?_;rintro _ ug ⟨rfl,icg,hbg⟩)|(go_at_call 43;(with_reducible refine (rsame_v 2 2 _ _ _ [0,1,1,0] 2 2 _ _ _ [0,1,1,0] _ true (by decide) (FP.out.mono (by (repeat (first|assumption|exact Below.refl _ _|refine keep_drew ?_|refine keep_alloc ?_ _|refine keep_trans ?_ (by assumption))))) icg).mono ?_);rintro _ ut ⟨rfl,hbt⟩)|(go_at_call 38;(with_reducible refine (HSS.out _ _ _ _ ?_ ?_).mono ?_);(focus ((repeat (first|assumption|exact Below.refl _ _|refine keep_drew ?_|refine keep_alloc ?_ _|refine keep_trans ?_ (by assumption)))));(focus (exact ic_lit _ [1,0,2] (by decide)));rintro _ ui5 ⟨rfl,hbi5⟩)|(go_at_call 38;(with_reducible refine (HSH.out _ _ _ _ ?_ ?_).mono ?_);(focus ((repeat (first|assumption|exact Below.refl _ _|refine keep_drew ?_|refine keep_alloc ?_ _|refine keep_trans ?_ (by assumption)))));(focus (exact ic_lit _ [0,1,2] (by decide)));rintro _ ui6 ⟨rfl,hbi6⟩)|(go_at_call 33;refine (aC_ch _ _ _ _ _ (rc_same3 _ _ _ _ _ (by first|exact .inl rfl|exact .inr (.inl rfl)|exact .inr (.inr rfl)) (by first|exact .inl rfl|exact .inr (.inl rfl)|exact .inr (.inr rfl)) (by first|exact .inl rfl|exact .inr (.inl rfl)|exact .inr (.inr rfl))) (FH.out.mono (by (repeat (first|assumption|exact Below.refl _ _|refine keep_drew ?_|refine keep_alloc ?_ _|refine keep_trans ?_ (by assumption)))))).mono ?_;rintro _ uc ⟨rfl,hbc⟩)|fail);refine ⟨?_,?_⟩;focus (exact ⟨_,below_over (by repeat (first|assumption|exact Below.refl _ _|refine keep_drew ?_|refine keep_alloc ?_ _|refine keep_set ?_ (by first|omega|(dsimp only;omega)) _|refine keep_trans ?_ (by assumption)))⟩)))
 all_goals try refine wpTr_end ?_
 all_goals try (first|(refine ⟨?_,?_,?_⟩ <;> dsimp only[List.map,List.cons_append,List.nil_append,pickOps,nthOp])|(refine ⟨?_,?_⟩ <;> dsimp only[List.map,List.cons_append,List.nil_append,pickOps,nthOp]))
 all_goals repeat (first|(refine wpS_skip rfl (fun K hK=>?_);go_big_quiet_op;refine hK _ ?_;clear hK K)|(refine wpS_quiet rfl rfl (fun K hK=>?_);go_big_quiet_op;refine hK _ ?_;clear hK K)|(refine wpS_loud ?_;go_wp2_with (first|(go_at_call 91;refine (lgrid_ic _ _ _ _ [0,1,1,0] _ (by exact ic_lit _ [0,1,1,0] (by decide))).mono ?_;rintro _ ug ⟨rfl,icg,hbg⟩)|(go_at_call 43;(with_reducible refine (rsame_v 2 2 _ _ _ [0,1,1,0] 2 2 _ _ _ [0,1,1,0] _ true (by decide) (FP.out.mono (by (repeat (first|assumption|exact Below.refl _ _|refine keep_drew ?_|refine keep_alloc ?_ _|refine keep_trans ?_ (by assumption))))) icg).mono ?_);rintro _ ut ⟨rfl,hbt⟩)|(go_at_call 38;(with_reducible refine (HSS.out _ _ _ _ ?_ ?_).mono ?_);(focus ((repeat (first|assumption|exact Below.refl _ _|refine keep_drew ?_|refine keep_alloc ?_ _|refine keep_trans ?_ (by assumption)))));(focus (exact ic_lit _ [1,0,2] (by decide)));rintro _ ui5 ⟨rfl,hbi5⟩)|(go_at_call 38;(with_reducible refine (HSH.out _ _ _ _ ?_ ?_).mono ?_);(focus ((repeat (first|assumption|exact Below.refl _ _|refine keep_drew ?_|refine keep_alloc ?_ _|refine keep_trans ?_ (by assumption)))));(focus (exact ic_lit _ [0,1,2] (by decide)));rintro _ ui6 ⟨rfl,hbi6⟩)|(go_at_call 33;refine (aC_ch _ _ _ _ _ (rc_same3 _ _ _ _ _ (by first|exact .inl rfl|exact .inr (.inl rfl)|exact .inr (.inr rfl)) (by first|exact .inl rfl|exact .inr (.inl rfl)|exact .inr (.inr rfl)) (by first|exact .inl rfl|exact .inr (.inl rfl)|exact .inr (.inr rfl))) (FH.out.mono (by (repeat (first|assumption|exact Below.refl _ _|refine keep_drew ?_|refine keep_alloc ?_ _|refine keep_trans ?_ (by assumption)))))).mono ?_;rintro _ uc ⟨rfl,hbc⟩)|fail);refine ⟨?_,?_⟩;focus (exact ⟨_,below_over (by repeat (first|assumption|exact Below.refl _ _|refine keep_drew ?_|refine keep_alloc ?_ _|refine keep_set ?_ (by first|omega|(dsimp only;omega)) _|refine keep_trans ?_ (by assumption)))⟩)))
 all_goals try refine wpTr_end ?_
 all_goals try dsimp only[wpTr3,pickOps,nthOp]
 all_goals repeat (first|(refine wpS_skip rfl (fun K hK=>?_);go_big_quiet_op;refine hK _ ?_;clear hK K)|(refine wpS_quiet rfl rfl (fun K hK=>?_);go_big_quiet_op;refine hK _ ?_;clear hK K)|(refine wpS_loud ?_;go_wp2_with (first|(go_at_call 91;refine (lgrid_ic _ _ _ _ [0,1,1,0] _ (by exact ic_lit _ [0,1,1,0] (by decide))).mono ?_;rintro _ ug ⟨rfl,icg,hbg⟩)|(go_at_call 43;(with_reducible refine (rsame_v 2 2 _ _ _ [0,1,1,0] 2 2 _ _ _ [0,1,1,0] _ true (by decide) (FP.out.mono (by (repeat (first|assumption|exact Below.refl _ _|refine keep_drew ?_|refine keep_alloc ?_ _|refine keep_trans ?_ (by assumption))))) icg).mono ?_);rintro _ ut ⟨rfl,hbt⟩)|(go_at_call 38;(with_reducible refine (HSS.out _ _ _ _ ?_ ?_).mono ?_);(focus ((repeat (first|assumption|exact Below.refl _ _|refine keep_drew ?_|refine keep_alloc ?_ _|refine keep_trans ?_ (by assumption)))));(focus (exact ic_lit _ [1,0,2] (by decide)));rintro _ ui5 ⟨rfl,hbi5⟩)|(go_at_call 38;(with_reducible refine (HSH.out _ _ _ _ ?_ ?_).mono ?_);(focus ((repeat (first|assumption|exact Below.refl _ _|refine keep_drew ?_|refine keep_alloc ?_ _|refine keep_trans ?_ (by assumption)))));(focus (exact ic_lit _ [0,1,2] (by decide)));rintro _ ui6 ⟨rfl,hbi6⟩)|(go_at_call 33;refine (aC_ch _ _ _ _ _ (rc_same3 _ _ _ _ _ (by first|exact .inl rfl|exact .inr (.inl rfl)|exact .inr (.inr rfl)) (by first|exact .inl rfl|exact .inr (.inl rfl)|exact .inr (.inr rfl)) (by first|exact .inl rfl|exact .inr (.inl rfl)|exact .inr (.inr rfl))) (FH.out.mono (by (repeat (first|assumption|exact Below.refl _ _|refine keep_drew ?_|refine keep_alloc ?_ _|refine keep_trans ?_ (by assumption)))))).mono ?_;rintro _ uc ⟨rfl,hbc⟩)|fail);refine ⟨?_,?_⟩;focus (exact ⟨_,below_over (by repeat (first|assumption|exact Below.refl _ _|refine keep_drew ?_|refine keep_alloc ?_ _|refine keep_set ?_ (by first|omega|(dsimp only;omega)) _|refine keep_trans ?_ (by assumption)))⟩)))
 all_goals refine wpS_end ?_
 all_goals have hbk:Below us.heap.size us uc:=by (repeat (first|assumption|exact Below.refl _ _|refine keep_drew ?_|refine keep_alloc ?_ _|refine keep_trans ?_ (by assumption)))
 all_goals have HBZ:=Lib.hid (keep_trans HB.out hbk)
 all_goals clear hbk HB FS FH FP HSS HSH
 all_goals go_wp2_with fail
 all_goals refine bodyPost_ret (v := .bool true) ?_ rfl ⟨rfl,HBZ.out⟩
 all_goals simp[results,Tryz.f20,go_sem]
end
end Go.Proofs.YtmfpdakaeagdpaaGreat
