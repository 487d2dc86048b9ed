/- Texts J102 to J114 of this proof, in one file. -/
import Derived.Test.YtmfpdakaeagdpaaGreatW01
import Derived.Test.YtmfpdakaeagdpaaGreatW02
import Derived.Test.YtmfpdakaeagdpaaGreatW03
import Derived.Test.YtmfpdakaeagdpaaGreatW04
import Derived.Test.YtmfpdakaeagdpaaGreatW05
import Derived.Test.YtmfpdakaeagdpaaGreatW06
import Derived.Test.YtmfpdakaeagdpaaGreatW07
import Derived.Test.YtmfpdakaeagdpaaGreatW08
import Derived.Test.YtmfpdakaeagdpaaGreatW09
import Derived.Test.YtmfpdakaeagdpaaGreatW10
import Derived.Test.YtmfpdakaeagdpaaGreatW11
import Derived.Test.YtmfpdakaeagdpaaGreatW12
import Derived.Test.YtmfpdakaeagdpaaGreatW13
import Derived.Test.YtmfpdakaeagdpaaGreatW14
import Derived.Test.YtmfpdakaeagdpaaGreatW15
import Derived.Test.YtmfpdakaeagdpaaGreatW16
import Derived.Test.YtmfpdakaeagdpaaGreatW17
import Derived.Test.YtmfpdakaeagdpaaGreatW18
import Derived.Test.YtmfpdakaeagdpaaGreatW19
import Derived.Test.YtmfpdakaeagdpaaGreatW20
import Derived.Test.YtmfpdakaeagdpaaGreatW21
import Derived.Test.YtmfpdakaeagdpaaGreatW22
import Derived.Test.YtmfpdakaeagdpaaGreatW23
import Derived.Test.YtmfpdakaeagdpaaGreatW24
import Derived.Test.YtmfpdakaeagdpaaGreatW25
import Derived.Test.YtmfpdakaeagdpaaGreatW26
import Derived.Test.YtmfpdakaeagdpaaGreatW27
import Derived.Test.YtmfpdakaeagdpaaGreatX20n01
import Derived.Below
import Derived.BigFrame
import Derived.BigQuiet
import Derived.Deep.CutBlock
import Derived.Deep.CutRange
import Derived.Deep.LoopGhost
import Derived.Deep.Quiet
import Derived.Deep.RegionHeld3
import Derived.DeepKeys4
import Derived.KernelRfl
import Derived.Laws.BitsAllLaws
import Derived.Laws.EntriesVeiled
import Derived.Lib.AppendZeros
import Derived.Lib.Hide
import Derived.Lib.SlKeysI
import Derived.Lib.SliceRun
import Derived.LoopIn
import Derived.LoopNIn
import Derived.Maps.AppendAt
import Derived.Maps.OwnIn
import Derived.Maps.OwnSet
import Derived.OneCell
import Derived.OrdersHeld
import Derived.OrdersIn
import Derived.OwnWalkIn
import Derived.RangeFuncBound
import Derived.RangeFuncBox
import Derived.RangeFuncCalls
import Derived.RangeFuncLeaves
import Derived.RangeFuncNested
import Derived.RangeFuncWrites
import Derived.Shelf.Abstract
import Derived.Shelf.SortM.Plain
import Derived.Still
import Derived.TacticsIn
import Derived.TacticsInMore
import Derived.Test.YtmfpdakaeagdpaaGreatProg
import Derived.WalkKit
import Derived.WalkLawsBesides
import Derived.WalkSpells
import Derived.WideKeyPair
namespace Go.Proofs.YtmfpdakaeagdpaaGreat
set_option maxRecDepth 100000
set_option maxHeartbeats 16000000
section
open Go Go.RowKit
attribute [local go_sem] over_cell
attribute [local go_sem] Oper.semAt_some
theorem lgreat_c (r C:Int) (a:Option Addr) (m c:Nat) (k:Int) (w:World):Calls Tryz.prog 19 #[.agg #[.int .i64 r,.int .i64 C,.slice a m c],.int .i64 k] w fun e w'=>e = .returned (.bool (decide (k<(m:Int))))∧Below w.heap.size w w':=by
 go_enter Tryz.func19,Tryz.ntmps19
 go_upto_region 1 with fail
 have fsz:(w.alloc (.cells #[.int .i64 r,.int .i64 C,.slice a m c] 24)).heap.size=w.heap.size+1:=by simp only[World.size_alloc]
 have fB:Below w.heap.size w (w.alloc (.cells #[.int .i64 r,.int .i64 C,.slice a m c] 24)):=(Below.refl _ _).alloc (Nat.le_refl _) _
 have fq0:(w.alloc (.cells #[.int .i64 r,.int .i64 C,.slice a m c] 24)).heap[w.heap.size]?=some (.cells #[.int .i64 r,.int .i64 C,.slice a m c] 24 (0,0)):=by have h:=World.alloc_heap_new w (.cells #[.int .i64 r,.int .i64 C,.slice a m c] 24);exact h
 generalize (w.alloc (.cells #[.int .i64 r,.int .i64 C,.slice a m c] 24))=W0 at fsz fB fq0 ⊢
 obtain ⟨x0,x1,x2,xl⟩:=c3_of fq0
 clear fq0 fsz
 go_wp2_with fail
 refine bodyPost_ret (v := .bool (decide (k<(m:Int)))) ?_ rfl ⟨rfl,fB⟩
 simp[results,Tryz.f19,go_sem]
def madeB (r C:Int) (cs:List Int) (er:Int) (r2 C2:Int) (ds:List Int) (bad:Int):Bool:=if bad≠0 then sameG r C cs 0 0 []&&(er==bad) else (er==0)&&sameG r C cs r2 C2 ds
theorem lmade_c (r C:Int) (a:Option Addr) (n c:Nat) (cs:List Int) (er:Int) (r2 C2:Int) (a2:Option Addr) (n2 c2:Nat) (ds:List Int) (bad:Int) (w:World) (h:IC w a n cs) (h2:IC w a2 n2 ds) :
  Calls Tryz.prog 24 #[.agg #[.int .i64 r,.int .i64 C,.slice a n c],.int .i64 er,.agg #[.int .i64 r2,.int .i64 C2,.slice a2 n2 c2],.int .i64 bad] w fun e w'=>e = .returned (.bool (madeB r C cs er r2 C2 ds bad))∧Below w.heap.size w w':=by
 have H0:=Lib.hid (fun W (hb:Below w.heap.size w W)=>rsame_c r C a n c cs 0 0 none 0 0 [] W (h.mono hb) ⟨⟨rfl,by omega⟩,fun k hk=>absurd hk (by omega)⟩)
 have H1:=Lib.hid (fun W (hb:Below w.heap.size w W)=>rsame_c r C a n c cs r2 C2 a2 n2 c2 ds W (h.mono hb) (h2.mono hb))
 have HD:Hid (madeB r C cs er r2 C2 ds bad=if bad≠0 then sameG r C cs 0 0 []&&(er==bad) else (er==0)&&sameG r C cs r2 C2 ds):=rfl
 generalize sameG r C cs 0 0 []=b0 at H0 HD
 generalize sameG r C cs r2 C2 ds=b1 at H1 HD
 generalize madeB r C cs er r2 C2 ds bad=R at HD ⊢
 clear h h2
 by_cases hb:bad=0
 ·have HR:Hid (R=((er==0)&&b1)):=by unfold Hid;rw[HD.out,if_neg (by simpa using hb)]
  have hb':(bad != 0)=false:=by simpa using hb
  obtain ⟨b,e1⟩:∃b,(er==0)=b:=⟨_,rfl⟩
  rw[e1] at HR
  clear hb HD
  cases b with
  | false =>
   go_enter Tryz.func24,Tryz.ntmps24
   go_upto_region 1 with fail
   have fsz:((w.alloc (.cells #[.int .i64 r,.int .i64 C,.slice a n c] 24)).alloc (.cells #[.int .i64 r2,.int .i64 C2,.slice a2 n2 c2] 24)).heap.size=w.heap.size+2:=by simp only[World.size_alloc] <;> omega
   have fB:Below w.heap.size w ((w.alloc (.cells #[.int .i64 r,.int .i64 C,.slice a n c] 24)).alloc (.cells #[.int .i64 r2,.int .i64 C2,.slice a2 n2 c2] 24)):=((Below.refl _ _).alloc (Nat.le_refl _) _).alloc (by simp only[World.size_alloc];omega) _
   have fq0:((w.alloc (.cells #[.int .i64 r,.int .i64 C,.slice a n c] 24)).alloc (.cells #[.int .i64 r2,.int .i64 C2,.slice a2 n2 c2] 24)).heap[w.heap.size]?=some (.cells #[.int .i64 r,.int .i64 C,.slice a n c] 24 (0,0)):=by have h:=World.alloc_heap_new w (.cells #[.int .i64 r,.int .i64 C,.slice a n c] 24);exact (Below.heap_alloc _ _ _ (by simp only[World.size_alloc];omega)).trans (h)
   have fq1:((w.alloc (.cells #[.int .i64 r,.int .i64 C,.slice a n c] 24)).alloc (.cells #[.int .i64 r2,.int .i64 C2,.slice a2 n2 c2] 24)).heap[w.heap.size+1]?=some (.cells #[.int .i64 r2,.int .i64 C2,.slice a2 n2 c2] 24 (0,0)):=by have h:=World.alloc_heap_new (w.alloc (.cells #[.int .i64 r,.int .i64 C,.slice a n c] 24)) (.cells #[.int .i64 r2,.int .i64 C2,.slice a2 n2 c2] 24);simp only[World.size_alloc] at h;exact h
   generalize ((w.alloc (.cells #[.int .i64 r,.int .i64 C,.slice a n c] 24)).alloc (.cells #[.int .i64 r2,.int .i64 C2,.slice a2 n2 c2] 24))=W0 at fsz fB fq0 fq1 ⊢
   obtain ⟨x0,x1,x2,xl⟩:=c3_of fq0
   obtain ⟨y0,y1,y2,yl⟩:=c3_of fq1
   clear fq0 fq1 fsz
   go_wp2_with fail
   refine bodyPost_ret (v := .bool false) ?_ rfl ⟨by rw[HR.out];rfl,fB⟩
   simp[results,Tryz.f24,go_sem]
  | true =>
   go_enter Tryz.func24,Tryz.ntmps24
   go_upto_region 1 with fail
   have fsz:((w.alloc (.cells #[.int .i64 r,.int .i64 C,.slice a n c] 24)).alloc (.cells #[.int .i64 r2,.int .i64 C2,.slice a2 n2 c2] 24)).heap.size=w.heap.size+2:=by simp only[World.size_alloc] <;> omega
   have fB:Below w.heap.size w ((w.alloc (.cells #[.int .i64 r,.int .i64 C,.slice a n c] 24)).alloc (.cells #[.int .i64 r2,.int .i64 C2,.slice a2 n2 c2] 24)):=((Below.refl _ _).alloc (Nat.le_refl _) _).alloc (by simp only[World.size_alloc];omega) _
   have fq0:((w.alloc (.cells #[.int .i64 r,.int .i64 C,.slice a n c] 24)).alloc (.cells #[.int .i64 r2,.int .i64 C2,.slice a2 n2 c2] 24)).heap[w.heap.size]?=some (.cells #[.int .i64 r,.int .i64 C,.slice a n c] 24 (0,0)):=by have h:=World.alloc_heap_new w (.cells #[.int .i64 r,.int .i64 C,.slice a n c] 24);exact (Below.heap_alloc _ _ _ (by simp only[World.size_alloc];omega)).trans (h)
   have fq1:((w.alloc (.cells #[.int .i64 r,.int .i64 C,.slice a n c] 24)).alloc (.cells #[.int .i64 r2,.int .i64 C2,.slice a2 n2 c2] 24)).heap[w.heap.size+1]?=some (.cells #[.int .i64 r2,.int .i64 C2,.slice a2 n2 c2] 24 (0,0)):=by have h:=World.alloc_heap_new (w.alloc (.cells #[.int .i64 r,.int .i64 C,.slice a n c] 24)) (.cells #[.int .i64 r2,.int .i64 C2,.slice a2 n2 c2] 24);simp only[World.size_alloc] at h;exact h
   generalize ((w.alloc (.cells #[.int .i64 r,.int .i64 C,.slice a n c] 24)).alloc (.cells #[.int .i64 r2,.int .i64 C2,.slice a2 n2 c2] 24))=W0 at fsz fB fq0 fq1 ⊢
   obtain ⟨x0,x1,x2,xl⟩:=c3_of fq0
   obtain ⟨y0,y1,y2,yl⟩:=c3_of fq1
   clear fq0 fq1 fsz
   go_wp2_with (first|(go_at_call 43;refine (H1.out _ (by (repeat (first|assumption|exact Below.refl _ _|refine keep_drew ?_|refine keep_alloc ?_ _|refine keep_trans ?_ (by assumption))))).mono ?_;rintro _ w2 ⟨rfl,hb2⟩)|fail)
   refine bodyPost_ret (v := .bool b1) ?_ rfl ⟨by rw[HR.out];rfl,keep_trans fB hb2⟩
   simp[results,Tryz.f24,go_sem]
 ·have HR:Hid (R=(b0&&(er==bad))):=by unfold Hid;rw[HD.out,if_pos hb]
  have hb':(bad != 0)=true:=by simpa using hb
  clear hb HD
  cases b0 with
  | false =>
   go_enter Tryz.func24,Tryz.ntmps24
   go_upto_region 1 with fail
   have fsz:((w.alloc (.cells #[.int .i64 r,.int .i64 C,.slice a n c] 24)).alloc (.cells #[.int .i64 r2,.int .i64 C2,.slice a2 n2 c2] 24)).heap.size=w.heap.size+2:=by simp only[World.size_alloc] <;> omega
   have fB:Below w.heap.size w ((w.alloc (.cells #[.int .i64 r,.int .i64 C,.slice a n c] 24)).alloc (.cells #[.int .i64 r2,.int .i64 C2,.slice a2 n2 c2] 24)):=((Below.refl _ _).alloc (Nat.le_refl _) _).alloc (by simp only[World.size_alloc];omega) _
   have fq0:((w.alloc (.cells #[.int .i64 r,.int .i64 C,.slice a n c] 24)).alloc (.cells #[.int .i64 r2,.int .i64 C2,.slice a2 n2 c2] 24)).heap[w.heap.size]?=some (.cells #[.int .i64 r,.int .i64 C,.slice a n c] 24 (0,0)):=by have h:=World.alloc_heap_new w (.cells #[.int .i64 r,.int .i64 C,.slice a n c] 24);exact (Below.heap_alloc _ _ _ (by simp only[World.size_alloc];omega)).trans (h)
   have fq1:((w.alloc (.cells #[.int .i64 r,.int .i64 C,.slice a n c] 24)).alloc (.cells #[.int .i64 r2,.int .i64 C2,.slice a2 n2 c2] 24)).heap[w.heap.size+1]?=some (.cells #[.int .i64 r2,.int .i64 C2,.slice a2 n2 c2] 24 (0,0)):=by have h:=World.alloc_heap_new (w.alloc (.cells #[.int .i64 r,.int .i64 C,.slice a n c] 24)) (.cells #[.int .i64 r2,.int .i64 C2,.slice a2 n2 c2] 24);simp only[World.size_alloc] at h;exact h
   generalize ((w.alloc (.cells #[.int .i64 r,.int .i64 C,.slice a n c] 24)).alloc (.cells #[.int .i64 r2,.int .i64 C2,.slice a2 n2 c2] 24))=W0 at fsz fB fq0 fq1 ⊢
   obtain ⟨x0,x1,x2,xl⟩:=c3_of fq0
   clear fq0 fq1 fsz
   go_wp2_with (first|(go_at_call 43;refine (H0.out _ (by (repeat (first|assumption|exact Below.refl _ _|refine keep_drew ?_|refine keep_alloc ?_ _|refine keep_trans ?_ (by assumption))))).mono ?_;rintro _ w2 ⟨rfl,hb2⟩)|fail)
   refine bodyPost_ret (v := .bool false) ?_ rfl ⟨by rw[HR.out];rfl,keep_trans fB hb2⟩
   simp[results,Tryz.f24,go_sem]
  | true =>
   go_enter Tryz.func24,Tryz.ntmps24
   go_upto_region 1 with fail
   have fsz:((w.alloc (.cells #[.int .i64 r,.int .i64 C,.slice a n c] 24)).alloc (.cells #[.int .i64 r2,.int .i64 C2,.slice a2 n2 c2] 24)).heap.size=w.heap.size+2:=by simp only[World.size_alloc] <;> omega
   have fB:Below w.heap.size w ((w.alloc (.cells #[.int .i64 r,.int .i64 C,.slice a n c] 24)).alloc (.cells #[.int .i64 r2,.int .i64 C2,.slice a2 n2 c2] 24)):=((Below.refl _ _).alloc (Nat.le_refl _) _).alloc (by simp only[World.size_alloc];omega) _
   have fq0:((w.alloc (.cells #[.int .i64 r,.int .i64 C,.slice a n c] 24)).alloc (.cells #[.int .i64 r2,.int .i64 C2,.slice a2 n2 c2] 24)).heap[w.heap.size]?=some (.cells #[.int .i64 r,.int .i64 C,.slice a n c] 24 (0,0)):=by have h:=World.alloc_heap_new w (.cells #[.int .i64 r,.int .i64 C,.slice a n c] 24);exact (Below.heap_alloc _ _ _ (by simp only[World.size_alloc];omega)).trans (h)
   have fq1:((w.alloc (.cells #[.int .i64 r,.int .i64 C,.slice a n c] 24)).alloc (.cells #[.int .i64 r2,.int .i64 C2,.slice a2 n2 c2] 24)).heap[w.heap.size+1]?=some (.cells #[.int .i64 r2,.int .i64 C2,.slice a2 n2 c2] 24 (0,0)):=by have h:=World.alloc_heap_new (w.alloc (.cells #[.int .i64 r,.int .i64 C,.slice a n c] 24)) (.cells #[.int .i64 r2,.int .i64 C2,.slice a2 n2 c2] 24);simp only[World.size_alloc] at h;exact h
   generalize ((w.alloc (.cells #[.int .i64 r,.int .i64 C,.slice a n c] 24)).alloc (.cells #[.int .i64 r2,.int .i64 C2,.slice a2 n2 c2] 24))=W0 at fsz fB fq0 fq1 ⊢
   obtain ⟨x0,x1,x2,xl⟩:=c3_of fq0
   clear fq0 fq1 fsz
   go_wp2_with (first|(go_at_call 43;refine (H0.out _ (by (repeat (first|assumption|exact Below.refl _ _|refine keep_drew ?_|refine keep_alloc ?_ _|refine keep_trans ?_ (by assumption))))).mono ?_;rintro _ w2 ⟨rfl,hb2⟩)|fail)
   refine bodyPost_ret (v := .bool (er==bad)) ?_ rfl ⟨by rw[HR.out];rfl,keep_trans fB hb2⟩
   simp[results,Tryz.f24,go_sem]
end
section
open Go Go.RowKit
attribute [local go_sem] over_cell
attribute [local go_sem] Oper.semAt_some
theorem lmade_v (r C:Int) (a:Option Addr) (n c:Nat) (cs:List Int) (er:Int) (r2 C2:Int) (a2:Option Addr) (n2 c2:Nat) (ds:List Int) (bad:Int) (w:World) (b:Bool) (hv:madeB r C cs er r2 C2 ds bad=b) (h:IC w a n cs) (h2:IC w a2 n2 ds) :
  Calls Tryz.prog 24 #[.agg #[.int .i64 r,.int .i64 C,.slice a n c],.int .i64 er,.agg #[.int .i64 r2,.int .i64 C2,.slice a2 n2 c2],.int .i64 bad] w fun e w'=>e = .returned (.bool b)∧Below w.heap.size w w':=by
 rw[← hv];exact lmade_c r C a n c cs er r2 C2 a2 n2 c2 ds bad w h h2
end
section
open Go Go.RowKit
attribute [local go_sem] over_cell
attribute [local go_sem] Oper.semAt_some
theorem delS_at (N:Nat) (cs:List Int) (k:Nat):delS N cs (k / N) (k % N)=(cs[k]?.getD 0 - ((k / N:Nat):Int) - ((k % N:Nat):Int)) % (N:Int):=by
 unfold delS
 rw[Nat.div_add_mod']
theorem rdeltas_c (N nn:Nat) (hnn:nn=N*N) (a:Option Addr) (ca:Nat) (cs:List Int) (w:World) (h:IC w a nn cs) (L:Latin N cs) :
  Calls Tryz.prog 52 #[.agg #[.int .i64 (N:Int),.int .i64 (N:Int),.slice a nn ca]] w (GridR w (N:Int) nn (madeTo N (delS N cs) nn)):=by
 have hN1:=L.pos
 have hN2:=L.le
 have hmm:nn≤256:=by rw[hnn];exact Nat.mul_le_mul hN2 hN2
 have HSQ:=Lib.hid (fun W=>rsq_c N nn hnn (by omega) W)
 have HDV:Hid (∀k,k<nn→k / N<N):=fun k hk=>Nat.div_lt_of_lt_mul (by omega)
 have HNM:Hid (∀k,k<nn→0≤cs[k]?.getD 0∧cs[k]?.getD 0<(N:Int)):=fun k hk=>L.get (by omega)
 have HDS:=Lib.hid (delS_at N cs)
 have hpos:1≤nn:=by rw[hnn];exact Nat.mul_pos hN1 hN1
 obtain ⟨b,off,ha,hbl,_⟩:=h.2 0 (by omega)
 have HI:=Lib.hid h
 have HBL:=Lib.hid hbl
 subst ha
 clear h hnn L
 have hne:(N:Int)≠0:=by omega
 go_enter Tryz.func52,Tryz.ntmps52
 go_upto_region 1 with fail
 have fsz:((w.alloc (.cells #[.int .i64 (N:Int),.int .i64 (N:Int),.slice (some ⟨b,off,none⟩) nn ca] 24)).alloc (.cells #[.int .i64 0,.int .i64 0,.slice none 0 0] 24)).heap.size=w.heap.size+2:=by simp only[World.size_alloc] <;> omega
 have fB:Below w.heap.size w ((w.alloc (.cells #[.int .i64 (N:Int),.int .i64 (N:Int),.slice (some ⟨b,off,none⟩) nn ca] 24)).alloc (.cells #[.int .i64 0,.int .i64 0,.slice none 0 0] 24)):=((Below.refl _ _).alloc (Nat.le_refl _) _).alloc (by simp only[World.size_alloc];omega) _
 have fq0:((w.alloc (.cells #[.int .i64 (N:Int),.int .i64 (N:Int),.slice (some ⟨b,off,none⟩) nn ca] 24)).alloc (.cells #[.int .i64 0,.int .i64 0,.slice none 0 0] 24)).heap[w.heap.size]?=some (.cells #[.int .i64 (N:Int),.int .i64 (N:Int),.slice (some ⟨b,off,none⟩) nn ca] 24 (0,0)):=by have h:=World.alloc_heap_new w (.cells #[.int .i64 (N:Int),.int .i64 (N:Int),.slice (some ⟨b,off,none⟩) nn ca] 24);exact (Below.heap_alloc _ _ _ (by simp only[World.size_alloc];omega)).trans (h)
 have fq1:((w.alloc (.cells #[.int .i64 (N:Int),.int .i64 (N:Int),.slice (some ⟨b,off,none⟩) nn ca] 24)).alloc (.cells #[.int .i64 0,.int .i64 0,.slice none 0 0] 24)).heap[w.heap.size+1]?=some (.cells #[.int .i64 0,.int .i64 0,.slice none 0 0] 24 (0,0)):=by have h:=World.alloc_heap_new (w.alloc (.cells #[.int .i64 (N:Int),.int .i64 (N:Int),.slice (some ⟨b,off,none⟩) nn ca] 24)) (.cells #[.int .i64 0,.int .i64 0,.slice none 0 0] 24);simp only[World.size_alloc] at h;exact h
 generalize ((w.alloc (.cells #[.int .i64 (N:Int),.int .i64 (N:Int),.slice (some ⟨b,off,none⟩) nn ca] 24)).alloc (.cells #[.int .i64 0,.int .i64 0,.slice none 0 0] 24))=W0 at fsz fB fq0 fq1 ⊢
 have Q0:=Lib.hid fq0
 have Q1:=Lib.hid fq1
 have FB:=Lib.hid fB
 obtain ⟨x0,x1,x2,xl⟩:=c3_of fq0
 have hs0:w.heap.size+2=W0.heap.size:=fsz.symm
 clear fq0 fq1 fsz fB
 go_upto_region 3 with (first|(go_at_call 101;refine (HSQ.out _).mono ?_;rintro _ w2 ⟨g,rfl,ho2,hb2⟩)|fail)
 have hg:=ho2.blk
 have ksz:(w2.alloc (.cells #[.int .i64 (N:Int),.int .i64 (N:Int),.slice (some ⟨g,0,none⟩) nn nn] 24)).heap.size=w2.heap.size+1:=by simp only[World.size_alloc]
 have kB:Below w2.heap.size w2 (w2.alloc (.cells #[.int .i64 (N:Int),.int .i64 (N:Int),.slice (some ⟨g,0,none⟩) nn nn] 24)):=(Below.refl _ _).alloc (Nat.le_refl _) _
 have kq0:(w2.alloc (.cells #[.int .i64 (N:Int),.int .i64 (N:Int),.slice (some ⟨g,0,none⟩) nn nn] 24)).heap[w2.heap.size]?=some (.cells #[.int .i64 (N:Int),.int .i64 (N:Int),.slice (some ⟨g,0,none⟩) nn nn] 24 (0,0)):=by have h:=World.alloc_heap_new w2 (.cells #[.int .i64 (N:Int),.int .i64 (N:Int),.slice (some ⟨g,0,none⟩) nn nn] 24);exact h
 generalize (w2.alloc (.cells #[.int .i64 (N:Int),.int .i64 (N:Int),.slice (some ⟨g,0,none⟩) nn nn] 24))=W3 at ksz kB kq0 ⊢
 have hb3:=keep_trans hb2 kB
 have HR:Hid (RqI w (w.heap.size+1) w2.heap.size g nn (N:Int) (fillTo N (delS N cs) nn 0) W3):=⟨keepq hb3 Q1.out,kq0,by rw[fillTo_zero];exact (ho2.keep kB).base (by omega),keep_trans FB.out hb3,by omega⟩
 have HQ:Hid (W3.heap[w.heap.size]?=_):=keepq hb3 Q0.out
 have hgb:b≠g:=by have:=HBL.out;omega
 have hgw:w.heap.size≠g:=by omega
 clear ksz kq0 kB hb2 ho2 hg hb3 x0 x1 x2 xl
 generalize w2.heap.size=b9 at HR ⊢
 go_wp2_with fail
 go_loopw [5] (fun s5 wr=>∃k:Nat,k≤nn∧s5 = .int .i64 (k:Int)∧Hid (RqI w (w.heap.size+1) b9 g nn (N:Int) (fillTo N (delS N cs) nn k) wr)∧Hid (wr.heap[w.heap.size]?=some (.cells #[.int .i64 (N:Int),.int .i64 (N:Int),.slice (some ⟨b,off,none⟩) nn ca] 24 (0,0)))) (fun s5 _=>nn - (intOf s5).toNat)
 case atStart=>exact ⟨0,by omega,rfl,HR,HQ⟩
 case round =>
  obtain ⟨k,hk,rfl,hR,hQ⟩:=hrel
  obtain ⟨x0,x1,x2,xl⟩:=c3_of hR.out.q9
  obtain ⟨y0,y1,y2,yl⟩:=c3_of hQ.out
  by_cases hlt:k<nn
  ·have hki:(k:Int)<(nn:Int):=by omega
   obtain ⟨u0,u1,u2⟩:=hR.out.o.at hlt
   obtain ⟨_,_,e0,hbw,hc⟩:=(HI.out.mono hR.out.bl).2 k hlt
   cases e0
   have e1:(k:Int) / (N:Int)=((k / N:Nat):Int):=(Int.natCast_ediv _ _).symm
   have e2:(k:Int) % (N:Int)=((k % N:Nat):Int):=(Int.natCast_emod _ _).symm
   have d1:=HDV.out k hlt
   have d2:k % N<N:=Nat.mod_lt _ (by omega)
   have hX:=HNM.out k hlt
   have HSK:=Lib.hid (HDS.out k)
   have HFN:=Lib.hid (fillTo_next (N:=N) (s:=delS N cs) hlt)
   generalize cs[k]?.getD 0=X at hc hX HSK
   rw[HSK.out] at HFN
   generalize k / N=p at e1 d1 HFN
   generalize k % N=q at e2 d2 HFN
   have HM:=Lib.hid (fun W=>mod_c (X - (p:Int) - (q:Int)) (N:Int) W (by omega) (by omega))
   generalize (fillTo N (delS N cs) nn k)[k]?.getD 0=ov at u0
   have k1:=Lib.hid (hR.out.set k ((X - (p:Int) - (q:Int)) % (N:Int)))
   rw[HFN.out] at k1
   have k2:=Lib.hid (q_other (i:=k) hQ.out hgw (.int .i64 ((X - (p:Int) - (q:Int)) % (N:Int))))
   clear HSK HFN
   go_wp2_with fail
   refine wp_region_S (fun w'=>∃u,w'=over (wr) u) [19] [(0,0),(0,1),(0,2),(0,3),(0,4),(0,5),(0,6),(0,7),(0,8),(0,9),(0,10),(0,11),(0,12),(0,13),(0,14),(0,15),(0,16),(1,17),(0,18),(2,19)] (by kernel_rfl) (by kernel_rfl) (by exact ⟨_,below_over (by repeat (first|assumption|exact Below.refl _ _|refine keep_drew ?_|refine keep_alloc ?_ _|refine keep_trans ?_ (by assumption)))⟩) ?_
   dsimp only[pickOps,nthOp]
   repeat (first|(refine wpS_skip rfl (fun K hK=>?_);go_big_quiet_op;refine hK _ ?_;clear hK K)|(refine wpS_quiet rfl rfl (fun K hK=>?_);go_big_quiet_op;refine hK _ ?_;clear hK K)|(refine wpS_loud ?_;go_wp2_with (first|(go_at_call 62;refine (HM.out _).mono ?_;rintro _ w5 ⟨rfl,rfl⟩)|fail);refine ⟨?_,?_⟩;focus (exact ⟨_,below_over (by repeat (first|assumption|exact Below.refl _ _|refine keep_drew ?_|refine keep_alloc ?_ _|refine keep_trans ?_ (by assumption)))⟩)))
   refine wpS_late _ _ _ rfl ?_
   dsimp only[List.map]
   go_wp2_with (first|(go_at_call 62;refine (HM.out _).mono ?_;rintro _ w5 ⟨rfl,rfl⟩)|fail)
   refine NoPanic.normal ?_
   go_wp2_with fail
   go_roundw
   case rel=>exact ⟨k+1,by omega,by go_num,k1.out.drew,k2.out⟩
   case measure=>simp[intOf];omega
  ·have e:k=nn:=by omega
   have hno:¬(k:Int)<(nn:Int):=by omega
   have hR9:=hR.out
   rw[e,fillTo_end] at hR9
   clear x0 x1 x2 xl
   obtain ⟨x0,x1,x2,xl⟩:=c3_of hR9.q9
   obtain ⟨v0,v1,v2,vl⟩:=c3_of hR9.q0
   obtain ⟨vf0,vf1,vf2⟩:=f3_of hR9.q0
   obtain ⟨t0,t1,t2⟩:=hR9.fin
   obtain ⟨z0,z1,z2,zl⟩:=c3_of t0
   have T1:=Lib.hid t1
   have T2:=Lib.hid t2
   clear e hR9 hR t0 t1 t2
   go_wp2_with fail
   refine bodyPost_ret (v := .agg #[.int .i64 (N:Int),.int .i64 (N:Int),.slice (some ⟨g,0,none⟩) nn nn]) ?_ rfl ⟨g,rfl,T1.out,T2.out⟩
   simp[results,Tryz.f52,go_sem,z0,z1,z2]
end
section
open Go Go.RowKit
attribute [local go_sem] over_cell
attribute [local go_sem] Oper.semAt_some
theorem dlt_get {N:Nat} {cs:List Int} {k:Nat} (hk:k<N*N):(madeTo N (delS N cs) (N*N))[k]?.getD 0=delta N cs k:=by
 unfold madeTo
 rw[List.getElem?_map,List.getElem?_range hk,Option.map_some,Option.getD_some,delS_at]
 rfl
theorem r4refutes_c (N nn:Nat) (hnn:nn=N*N) (a:Option Addr) (ca:Nat) (cs:List Int) (d:Int) (w:World) (h:IC w a nn cs) (L:Latin N cs) :
  Calls Tryz.prog 51 #[.agg #[.int .i64 (N:Int),.int .i64 (N:Int),.slice a nn ca],.int .i64 d] w fun e w'=>e = .returned (.bool (refuB N cs d))∧Below w.heap.size w w':=by
 have hN1:=L.pos
 have hN2:=L.le
 obtain ⟨R,hR⟩:∃R,R=refuB N cs d:=⟨_,rfl⟩
 rw[← hR]
 have hlen:cs.length=nn:=by rw[L.len,hnn]
 have hmm:nn≤256:=by rw[hnn];exact Nat.mul_le_mul hN2 hN2
 have HDL:=Lib.hid (fun W (hb:Below w.heap.size w W)=>rdeltas_c N nn hnn a ca cs W (h.mono hb) L)
 have HGT:Hid (∀k,k<nn→(madeTo N (delS N cs) nn)[k]?.getD 0=delta N cs k):=fun k hk=>by rw[hnn];exact dlt_get (by omega)
 have HNB:Hid (∀k,0≤delta N cs k∧delta N cs k<(N:Int)):=fun k=>⟨Int.emod_nonneg _ (by omega),Int.emod_lt_of_pos _ (by omega)⟩
 generalize madeTo N (delS N cs) nn=ds at HDL HGT
 clear hnn L
 by_cases h2:d<2
 ·have HE:Hid (R=false):=by unfold Hid;rw[hR];unfold refuB;rw[decide_eq_false (show ¬(2:Int)≤d by omega)];simp
  have hd:decide (d<2)=true:=decide_eq_true h2
  clear hR
  go_enter Tryz.func51,Tryz.ntmps51
  go_upto_region 1 with fail
  have fsz:(w.alloc (.cells #[.int .i64 (N:Int),.int .i64 (N:Int),.slice a nn ca] 24)).heap.size=w.heap.size+1:=by simp only[World.size_alloc]
  have fB:Below w.heap.size w (w.alloc (.cells #[.int .i64 (N:Int),.int .i64 (N:Int),.slice a nn ca] 24)):=(Below.refl _ _).alloc (Nat.le_refl _) _
  have fq0:(w.alloc (.cells #[.int .i64 (N:Int),.int .i64 (N:Int),.slice a nn ca] 24)).heap[w.heap.size]?=some (.cells #[.int .i64 (N:Int),.int .i64 (N:Int),.slice a nn ca] 24 (0,0)):=by have h:=World.alloc_heap_new w (.cells #[.int .i64 (N:Int),.int .i64 (N:Int),.slice a nn ca] 24);exact h
  generalize (w.alloc (.cells #[.int .i64 (N:Int),.int .i64 (N:Int),.slice a nn ca] 24))=W0 at fsz fB fq0 ⊢
  have Q0:=Lib.hid fq0
  have FB:=Lib.hid fB
  obtain ⟨x0,x1,x2,xl⟩:=c3_of fq0
  clear fq0 fsz fB
  go_wp2_with fail
  refine bodyPost_ret (v := .bool false) ?_ rfl ⟨by rw[HE.out],FB.out⟩
  simp[results,Tryz.f51,go_sem]
 ·have hd:decide (d<2)=false:=decide_eq_false h2
  obtain ⟨D,rfl⟩:=Int.eq_ofNat_of_zero_le (show 0≤d by omega)
  have hne:(D:Int)≠0:=by omega
  by_cases hgt:(N:Int)<(D:Int)
  ·have HE:Hid (R=false):=by
    unfold Hid;rw[hR];unfold refuB
    rw[decide_eq_false (show ¬(N:Int) % (D:Int)=0 by rw[Int.emod_eq_of_lt (by omega) hgt];omega)];simp
   have hd3:decide ((N:Int)<(D:Int))=true:=decide_eq_true hgt
   clear hR
   go_enter Tryz.func51,Tryz.ntmps51
   go_upto_region 1 with fail
   have fsz:(w.alloc (.cells #[.int .i64 (N:Int),.int .i64 (N:Int),.slice a nn ca] 24)).heap.size=w.heap.size+1:=by simp only[World.size_alloc]
   have fB:Below w.heap.size w (w.alloc (.cells #[.int .i64 (N:Int),.int .i64 (N:Int),.slice a nn ca] 24)):=(Below.refl _ _).alloc (Nat.le_refl _) _
   have fq0:(w.alloc (.cells #[.int .i64 (N:Int),.int .i64 (N:Int),.slice a nn ca] 24)).heap[w.heap.size]?=some (.cells #[.int .i64 (N:Int),.int .i64 (N:Int),.slice a nn ca] 24 (0,0)):=by have h:=World.alloc_heap_new w (.cells #[.int .i64 (N:Int),.int .i64 (N:Int),.slice a nn ca] 24);exact h
   generalize (w.alloc (.cells #[.int .i64 (N:Int),.int .i64 (N:Int),.slice a nn ca] 24))=W0 at fsz fB fq0 ⊢
   have Q0:=Lib.hid fq0
   have FB:=Lib.hid fB
   obtain ⟨x0,x1,x2,xl⟩:=c3_of fq0
   clear fq0 fsz fB
   go_wp2_with fail
   refine bodyPost_ret (v := .bool false) ?_ rfl ⟨by rw[HE.out],FB.out⟩
   simp[results,Tryz.f51,go_sem]
  ·have hdg:decide ((N:Int)<(D:Int))=false:=decide_eq_false hgt
   by_cases h3:(N:Int) % (D:Int)=0
   ·have hd3:((N:Int) % (D:Int) != 0)=false:=by rw[h3];rfl
    have hT:=half_mod (D:=D) hN1 hN2
    by_cases h4:(((N*(N - 1) / 2:Nat):Int)) % (D:Int)=0
    ·rw[decide_eq_false (show ¬((((N*(N - 1) / 2:Nat):Int)) % (D:Int)≠0) from fun e=>e h4)] at hT
     have HE:Hid (R=false):=by unfold Hid;rw[hR];unfold refuB;rw[decide_eq_false (show ¬((((N*(N - 1) / 2:Nat):Int)) % (D:Int)≠0) from fun e=>e h4)];simp
     clear h4 hR
     go_enter Tryz.func51,Tryz.ntmps51
     go_upto_region 1 with fail
     have fsz:(w.alloc (.cells #[.int .i64 (N:Int),.int .i64 (N:Int),.slice a nn ca] 24)).heap.size=w.heap.size+1:=by simp only[World.size_alloc]
     have fB:Below w.heap.size w (w.alloc (.cells #[.int .i64 (N:Int),.int .i64 (N:Int),.slice a nn ca] 24)):=(Below.refl _ _).alloc (Nat.le_refl _) _
     have fq0:(w.alloc (.cells #[.int .i64 (N:Int),.int .i64 (N:Int),.slice a nn ca] 24)).heap[w.heap.size]?=some (.cells #[.int .i64 (N:Int),.int .i64 (N:Int),.slice a nn ca] 24 (0,0)):=by have h:=World.alloc_heap_new w (.cells #[.int .i64 (N:Int),.int .i64 (N:Int),.slice a nn ca] 24);exact h
     generalize (w.alloc (.cells #[.int .i64 (N:Int),.int .i64 (N:Int),.slice a nn ca] 24))=W0 at fsz fB fq0 ⊢
     have Q0:=Lib.hid fq0
     have FB:=Lib.hid fB
     obtain ⟨x0,x1,x2,xl⟩:=c3_of fq0
     clear fq0 fsz fB
     go_wp2_with fail
     refine bodyPost_ret (v := .bool false) ?_ rfl ⟨by rw[HE.out],FB.out⟩
     simp[results,Tryz.f51,go_sem]
    ·rw[decide_eq_true (show ((((N*(N - 1) / 2:Nat):Int)) % (D:Int)≠0) from h4)] at hT
     have HE:Hid (R=(List.range nn).all fun c=>decide (delta N cs c % (D:Int)=0)):=by
      unfold Hid;rw[hR];unfold refuB
      rw[hlen,decide_eq_true h3,decide_eq_true (show (2:Int)≤(D:Int) by omega),decide_eq_true (show ((((N*(N - 1) / 2:Nat):Int)) % (D:Int)≠0) from h4)]
      simp
     clear h4 hR h
     go_enter Tryz.func51,Tryz.ntmps51
     go_upto_region 1 with fail
     have fsz:(w.alloc (.cells #[.int .i64 (N:Int),.int .i64 (N:Int),.slice a nn ca] 24)).heap.size=w.heap.size+1:=by simp only[World.size_alloc]
     have fB:Below w.heap.size w (w.alloc (.cells #[.int .i64 (N:Int),.int .i64 (N:Int),.slice a nn ca] 24)):=(Below.refl _ _).alloc (Nat.le_refl _) _
     have fq0:(w.alloc (.cells #[.int .i64 (N:Int),.int .i64 (N:Int),.slice a nn ca] 24)).heap[w.heap.size]?=some (.cells #[.int .i64 (N:Int),.int .i64 (N:Int),.slice a nn ca] 24 (0,0)):=by have h:=World.alloc_heap_new w (.cells #[.int .i64 (N:Int),.int .i64 (N:Int),.slice a nn ca] 24);exact h
     generalize (w.alloc (.cells #[.int .i64 (N:Int),.int .i64 (N:Int),.slice a nn ca] 24))=W0 at fsz fB fq0 ⊢
     have Q0:=Lib.hid fq0
     have FB:=Lib.hid fB
     obtain ⟨x0,x1,x2,xl⟩:=c3_of fq0
     clear fq0 fsz fB
     go_upto_region 5 with (first|(go_at_call 52;refine (HDL.out _ (keep_trans FB.out (by (repeat (first|assumption|exact Below.refl _ _|refine keep_drew ?_|refine keep_alloc ?_ _|refine keep_trans ?_ (by assumption)))))).mono ?_;rintro _ w2 ⟨g,rfl,ho2,hb2⟩)|fail)
     have ksz:(w2.alloc (.cells #[.int .i64 (N:Int),.int .i64 (N:Int),.slice (some ⟨g,0,none⟩) nn nn] 24)).heap.size=w2.heap.size+1:=by simp only[World.size_alloc]
     have kB:Below w2.heap.size w2 (w2.alloc (.cells #[.int .i64 (N:Int),.int .i64 (N:Int),.slice (some ⟨g,0,none⟩) nn nn] 24)):=(Below.refl _ _).alloc (Nat.le_refl _) _
     have kq0:(w2.alloc (.cells #[.int .i64 (N:Int),.int .i64 (N:Int),.slice (some ⟨g,0,none⟩) nn nn] 24)).heap[w2.heap.size]?=some (.cells #[.int .i64 (N:Int),.int .i64 (N:Int),.slice (some ⟨g,0,none⟩) nn nn] 24 (0,0)):=by have h:=World.alloc_heap_new w2 (.cells #[.int .i64 (N:Int),.int .i64 (N:Int),.slice (some ⟨g,0,none⟩) nn nn] 24);exact h
     generalize (w2.alloc (.cells #[.int .i64 (N:Int),.int .i64 (N:Int),.slice (some ⟨g,0,none⟩) nn nn] 24))=W3 at ksz kB kq0 ⊢
     have HO3:=Lib.hid (ho2.keep kB)
     have HB3:=Lib.hid (keep_trans FB.out (keep_trans hb2 kB))
     have Q3:=Lib.hid kq0
     have hlb:w2.heap.size<W3.heap.size:=q_lt kq0
     clear x0 x1 x2 xl ksz kq0 kB hb2 ho2 hd3 hT
     go_wp2_with fail
     go_loopw [7] (fun s wr=>∃k:Nat,k≤nn∧s = .int .i64 (k:Int)∧Hid (∀j,j<k→delta N cs j % (D:Int)=0)∧wr=W3) (fun s _=>nn - (intOf s).toNat)
     case atStart=>exact ⟨0,by omega,rfl,fun j hj=>absurd hj (by omega),rfl⟩
     case round =>
      obtain ⟨k,hk,rfl,hr,hwr⟩:=hrel
      replace hwr:=hwr.symm
      subst hwr
      obtain ⟨x0,x1,x2,xl⟩:=c3_of Q3.out
      by_cases hlt:k<nn
      ·have hki:(k:Int)<(nn:Int):=by omega
       obtain ⟨u0,u1,u2⟩:=HO3.out.at hlt
       rw[HGT.out k hlt] at u0
       have hb:=HNB.out k
       have HNX:Hid (∀(_:delta N cs k % (D:Int)=0),∀j,j<k+1→delta N cs j % (D:Int)=0):=fun e j hj=>by
        by_cases ej:j=k
        ·rw[ej];exact e
        ·exact hr.out j (by omega)
       have HFX:Hid (∀(_:delta N cs k % (D:Int)≠0),R=false):=fun e=>by
        rw[HE.out];exact allr_miss hlt (decide_eq_false e)
       generalize delta N cs k=X at u0 hb HNX HFX
       by_cases h0:X % (D:Int)=0
       ·have HN1:=Lib.hid (HNX.out h0)
        have hx0:(X % (D:Int) != 0)=false:=by rw[h0];rfl
        go_wp2_with fail
        go_roundw
        case rel=>exact ⟨k+1,by omega,by go_num,HN1,trivial⟩
        case measure=>simp[intOf];omega
       ·have HF1:=Lib.hid (HFX.out h0)
        have hx0:(X % (D:Int) != 0)=true:=by simpa using h0
        go_wp2_with fail
        refine bodyPost_ret (v := .bool false) ?_ rfl ⟨by rw[HF1.out],HB3.out⟩
        simp[results,Tryz.f51,go_sem]
      ·have e:k=nn:=by omega
       have hno:¬(k:Int)<(nn:Int):=by omega
       have HT1:Hid (R=true):=by unfold Hid;rw[HE.out];exact allr_upto (fun i hi=>decide_eq_true (hr.out i (by omega)))
       clear e
       go_wp2_with fail
       refine bodyPost_ret (v := .bool true) ?_ rfl ⟨by rw[HT1.out],HB3.out⟩
       simp[results,Tryz.f51,go_sem]
   ·have HE:Hid (R=false):=by unfold Hid;rw[hR];unfold refuB;rw[decide_eq_false h3];simp
    have hd3:((N:Int) % (D:Int) != 0)=true:=by simpa using h3
    clear hR h3
    go_enter Tryz.func51,Tryz.ntmps51
    go_upto_region 1 with fail
    have fsz:(w.alloc (.cells #[.int .i64 (N:Int),.int .i64 (N:Int),.slice a nn ca] 24)).heap.size=w.heap.size+1:=by simp only[World.size_alloc]
    have fB:Below w.heap.size w (w.alloc (.cells #[.int .i64 (N:Int),.int .i64 (N:Int),.slice a nn ca] 24)):=(Below.refl _ _).alloc (Nat.le_refl _) _
    have fq0:(w.alloc (.cells #[.int .i64 (N:Int),.int .i64 (N:Int),.slice a nn ca] 24)).heap[w.heap.size]?=some (.cells #[.int .i64 (N:Int),.int .i64 (N:Int),.slice a nn ca] 24 (0,0)):=by have h:=World.alloc_heap_new w (.cells #[.int .i64 (N:Int),.int .i64 (N:Int),.slice a nn ca] 24);exact h
    generalize (w.alloc (.cells #[.int .i64 (N:Int),.int .i64 (N:Int),.slice a nn ca] 24))=W0 at fsz fB fq0 ⊢
    have Q0:=Lib.hid fq0
    have FB:=Lib.hid fB
    obtain ⟨x0,x1,x2,xl⟩:=c3_of fq0
    clear fq0 fsz fB
    go_wp2_with fail
    refine bodyPost_ret (v := .bool false) ?_ rfl ⟨by rw[HE.out],FB.out⟩
    simp[results,Tryz.f51,go_sem]
theorem r4refute_c (N nn:Nat) (hnn:nn=N*N) (a:Option Addr) (ca:Nat) (cs:List Int) (w:World) (h:IC w a nn cs) (L:Latin N cs) :
  Calls Tryz.prog 53 #[.agg #[.int .i64 (N:Int),.int .i64 (N:Int),.slice a nn ca]] w fun e w'=>e = .returned (.int .i64 (refV N cs))∧Below w.heap.size w w':=by
 have hN1:=L.pos
 have hN2:=L.le
 obtain ⟨R,hR⟩:∃R,R=refV N cs:=⟨_,rfl⟩
 rw[← hR]
 have HR:=Lib.hid hR
 have HRF:=Lib.hid (fun d W (hb:Below w.heap.size w W)=>r4refutes_c N nn hnn a ca cs d W (h.mono hb) L)
 have HLOW:Hid (∀j:Nat,j<2→refuB N cs (j:Int)=false):=fun j hj=>by unfold refuB;rw[decide_eq_false (show ¬(2:Int)≤(j:Int) by omega)];simp
 clear hR hnn h L
 go_enter Tryz.func53,Tryz.ntmps53
 go_upto_region 1 with fail
 have fsz:(w.alloc (.cells #[.int .i64 (N:Int),.int .i64 (N:Int),.slice a nn ca] 24)).heap.size=w.heap.size+1:=by simp only[World.size_alloc]
 have fB:Below w.heap.size w (w.alloc (.cells #[.int .i64 (N:Int),.int .i64 (N:Int),.slice a nn ca] 24)):=(Below.refl _ _).alloc (Nat.le_refl _) _
 have fq0:(w.alloc (.cells #[.int .i64 (N:Int),.int .i64 (N:Int),.slice a nn ca] 24)).heap[w.heap.size]?=some (.cells #[.int .i64 (N:Int),.int .i64 (N:Int),.slice a nn ca] 24 (0,0)):=by have h:=World.alloc_heap_new w (.cells #[.int .i64 (N:Int),.int .i64 (N:Int),.slice a nn ca] 24);exact h
 generalize (w.alloc (.cells #[.int .i64 (N:Int),.int .i64 (N:Int),.slice a nn ca] 24))=W0 at fsz fB fq0 ⊢
 have Q0:=Lib.hid fq0
 have FB:=Lib.hid fB
 clear fq0 fsz fB
 go_wp2_with fail
 go_loopw [3] (fun s wr=>∃d:Nat,d≤N+2∧s = .int .i64 (d:Int)∧2≤d∧Hid (∀j,j<d→refuB N cs ((j:Nat):Int)=false)∧Below W0.heap.size W0 wr) (fun s _=>N+2 - (intOf s).toNat)
 case atStart=>exact ⟨2,by omega,rfl,by omega,HLOW.out,Below.refl _ _⟩
 case round =>
  obtain ⟨d,hd,rfl,hd2,hp,hbr⟩:=hrel
  obtain ⟨x0,x1,x2,xl⟩:=c3_of (keepq hbr Q0.out)
  by_cases hlt:d≤N
  ·have hdi:(d:Int)≤(N:Int):=by omega
   have HRD:=Lib.hid (fun W hb=>HRF.out (d:Int) W (keep_trans FB.out (keep_trans hbr hb)))
   have HYES:Hid (∀_:refuB N cs (d:Int)=true,R=(d:Int)):=fun e=>by
    rw[HR.out];unfold refV leastR
    rw[find_range (k:=d) (by omega) (fun j hj=>hp.out j hj) e];rfl
   have HNO:Hid (∀_:refuB N cs (d:Int)=false,∀j,j<d+1→refuB N cs ((j:Nat):Int)=false):=fun e j hj=>by
    by_cases ej:j=d
    ·rw[ej];exact e
    ·exact hp.out j (by omega)
   generalize refuB N cs (d:Int)=b at HRD HYES HNO
   cases b with
   | true =>
    have HY:=Lib.hid (HYES.out rfl)
    go_wp2_with (first|(go_at_call 51;refine (HRD.out _ (Below.refl _ _)).mono ?_;rintro _ w2 ⟨rfl,hb2⟩)|fail)
    refine bodyPost_ret (v := .int .i64 (d:Int)) ?_ rfl ⟨by rw[HY.out],keep_trans FB.out (keep_trans hbr hb2)⟩
    simp[results,Tryz.f53,go_sem]
   | false =>
    have HY:=Lib.hid (HNO.out rfl)
    go_wp2_with (first|(go_at_call 51;refine (HRD.out _ (Below.refl _ _)).mono ?_;rintro _ w2 ⟨rfl,hb2⟩)|fail)
    go_roundw
    case rel=>exact ⟨d+1,by omega,by go_num,by omega,HY,keep_trans hbr hb2⟩
    case measure=>simp[intOf];omega
  ·have hdi:¬(d:Int)≤(N:Int):=by omega
   have HZ:Hid (R=0):=by
    unfold Hid;rw[HR.out];unfold refV leastR
    rw[find_none (fun j hj=>hp.out j (by omega))];rfl
   go_wp2_with fail
   refine bodyPost_ret (v := .int .i64 0) ?_ rfl ⟨by rw[HZ.out],keep_trans FB.out hbr⟩
   simp[results,Tryz.f53,go_sem]
end
section
open Go Go.RowKit
attribute [local go_sem] over_cell
attribute [local go_sem] Oper.semAt_some
theorem lrefute_bad (r C:Int) (a:Option Addr) (m c:Nat) (cs:List Int) (w:World) (h:IC w a m cs) (er:Int) (he:sqE 0 r C cs=er) (h0:er≠0):Calls Tryz.prog 49 #[.agg #[.int .i64 r,.int .i64 C,.slice a m c]] w fun e w'=>e = .returned (.tuple #[.int .i64 0,.int .i64 er])∧Below w.heap.size w w':=by
 have HK:=Lib.hid (fun W (hb:Below w.heap.size w W)=>latcheck_c r C a m c cs W (h.mono hb))
 rw[he] at HK
 have h0':(er != 0)=true:=by simpa using h0
 clear he h h0
 go_enter Tryz.func49,Tryz.ntmps49
 go_upto_region 1 with fail
 have fsz:(w.alloc (.cells #[.int .i64 r,.int .i64 C,.slice a m c] 24)).heap.size=w.heap.size+1:=by simp only[World.size_alloc]
 have fB:Below w.heap.size w (w.alloc (.cells #[.int .i64 r,.int .i64 C,.slice a m c] 24)):=(Below.refl _ _).alloc (Nat.le_refl _) _
 have fq0:(w.alloc (.cells #[.int .i64 r,.int .i64 C,.slice a m c] 24)).heap[w.heap.size]?=some (.cells #[.int .i64 r,.int .i64 C,.slice a m c] 24 (0,0)):=by have h:=World.alloc_heap_new w (.cells #[.int .i64 r,.int .i64 C,.slice a m c] 24);exact h
 generalize (w.alloc (.cells #[.int .i64 r,.int .i64 C,.slice a m c] 24))=W0 at fsz fB fq0 ⊢
 obtain ⟨x0,x1,x2,xl⟩:=c3_of fq0
 clear fq0 fsz
 go_wp2_with (first|(go_at_call 58;refine (HK.out _ fB).mono ?_;rintro _ w2 ⟨rfl,hb2⟩)|fail)
 refine bodyPost_ret (v := .tuple #[.int .i64 0,.int .i64 er]) ?_ rfl ⟨rfl,keep_trans fB hb2⟩
 simp[results,Tryz.f49,go_sem]
theorem lcheckref_bad (r C:Int) (a:Option Addr) (m c:Nat) (cs:List Int) (d:Int) (w:World) (h:IC w a m cs) (er:Int) (he:sqE 0 r C cs=er) (h0:er≠0):Calls Tryz.prog 50 #[.agg #[.int .i64 r,.int .i64 C,.slice a m c],.int .i64 d] w fun e w'=>e = .returned (.int .i64 er)∧Below w.heap.size w w':=by
 have HK:=Lib.hid (fun W (hb:Below w.heap.size w W)=>latcheck_c r C a m c cs W (h.mono hb))
 rw[he] at HK
 have h0':(er != 0)=true:=by simpa using h0
 clear he h h0
 go_enter Tryz.func50,Tryz.ntmps50
 go_upto_region 1 with fail
 have fsz:(w.alloc (.cells #[.int .i64 r,.int .i64 C,.slice a m c] 24)).heap.size=w.heap.size+1:=by simp only[World.size_alloc]
 have fB:Below w.heap.size w (w.alloc (.cells #[.int .i64 r,.int .i64 C,.slice a m c] 24)):=(Below.refl _ _).alloc (Nat.le_refl _) _
 have fq0:(w.alloc (.cells #[.int .i64 r,.int .i64 C,.slice a m c] 24)).heap[w.heap.size]?=some (.cells #[.int .i64 r,.int .i64 C,.slice a m c] 24 (0,0)):=by have h:=World.alloc_heap_new w (.cells #[.int .i64 r,.int .i64 C,.slice a m c] 24);exact h
 generalize (w.alloc (.cells #[.int .i64 r,.int .i64 C,.slice a m c] 24))=W0 at fsz fB fq0 ⊢
 obtain ⟨x0,x1,x2,xl⟩:=c3_of fq0
 clear fq0 fsz
 go_wp2_with (first|(go_at_call 58;refine (HK.out _ fB).mono ?_;rintro _ w2 ⟨rfl,hb2⟩)|fail)
 refine bodyPost_ret (v := .int .i64 er) ?_ rfl ⟨rfl,keep_trans fB hb2⟩
 simp[results,Tryz.f50,go_sem]
end
end Go.Proofs.YtmfpdakaeagdpaaGreat
