/- Texts J102 to J157 of this proof, in one file. -/
import Derived.Test.YtmfpdakaeagdpaaGreatW01
import Derived.Test.YtmfpdakaeagdpaaGreatW02
import Derived.Test.YtmfpdakaeagdpaaGreatW03
import Derived.Test.YtmfpdakaeagdpaaGreatW04
import Derived.Test.YtmfpdakaeagdpaaGreatW05
import Derived.Test.YtmfpdakaeagdpaaGreatW06
import Derived.Test.YtmfpdakaeagdpaaGreatW07
import Derived.Test.YtmfpdakaeagdpaaGreatW08
import Derived.Test.YtmfpdakaeagdpaaGreatW09
import Derived.Test.YtmfpdakaeagdpaaGreatW10
import Derived.Test.YtmfpdakaeagdpaaGreatW11
import Derived.Test.YtmfpdakaeagdpaaGreatW12
import Derived.Test.YtmfpdakaeagdpaaGreatW13
import Derived.Test.YtmfpdakaeagdpaaGreatW14
import Derived.Test.YtmfpdakaeagdpaaGreatW15
import Derived.Test.YtmfpdakaeagdpaaGreatW16
import Derived.Test.YtmfpdakaeagdpaaGreatW17
import Derived.Test.YtmfpdakaeagdpaaGreatW18
import Derived.Test.YtmfpdakaeagdpaaGreatW19
import Derived.Test.YtmfpdakaeagdpaaGreatW20
import Derived.Test.YtmfpdakaeagdpaaGreatW21
import Derived.Test.YtmfpdakaeagdpaaGreatW22
import Derived.Test.YtmfpdakaeagdpaaGreatW23
import Derived.Test.YtmfpdakaeagdpaaGreatW24
import Derived.Test.YtmfpdakaeagdpaaGreatW25
import Derived.Test.YtmfpdakaeagdpaaGreatW26
import Derived.Test.YtmfpdakaeagdpaaGreatW27
import Derived.Test.YtmfpdakaeagdpaaGreatX30n01
import Derived.Test.YtmfpdakaeagdpaaGreatX30n02
import Derived.Below
import Derived.BigFrame
import Derived.BigQuiet
import Derived.Deep.CutBlock
import Derived.Deep.CutRange
import Derived.Deep.LoopGhost
import Derived.Deep.Quiet
import Derived.Deep.RegionHeld3
import Derived.DeepKeys4
import Derived.KernelRfl
import Derived.Laws.BitsAllLaws
import Derived.Laws.EntriesVeiled
import Derived.Lib.AppendZeros
import Derived.Lib.Hide
import Derived.Lib.SlKeysI
import Derived.Lib.SliceRun
import Derived.LoopIn
import Derived.LoopNIn
import Derived.Maps.AppendAt
import Derived.Maps.OwnIn
import Derived.Maps.OwnSet
import Derived.OneCell
import Derived.OrdersHeld
import Derived.OrdersIn
import Derived.OwnWalkIn
import Derived.RangeFuncBound
import Derived.RangeFuncBox
import Derived.RangeFuncCalls
import Derived.RangeFuncLeaves
import Derived.RangeFuncNested
import Derived.RangeFuncWrites
import Derived.Shelf.Abstract
import Derived.Shelf.SortM.Plain
import Derived.Still
import Derived.TacticsIn
import Derived.TacticsInMore
import Derived.Test.YtmfpdakaeagdpaaGreatProg
import Derived.WalkKit
import Derived.WalkLawsBesides
import Derived.WalkSpells
import Derived.WideKeyPair
namespace Go.Proofs.YtmfpdakaeagdpaaGreat
set_option maxRecDepth 100000
set_option maxHeartbeats 16000000
section
open Go Go.RowKit
attribute [local go_sem] over_cell
attribute [local go_sem] Oper.semAt_some
theorem lgreat_c (r C:Int) (a:Option Addr) (m c:Nat) (k:Int) (w:World):Calls Tryz.prog 19 #[.agg #[.int .i64 r,.int .i64 C,.slice a m c],.int .i64 k] w fun e w'=>e = .returned (.bool (decide (k<(m:Int))))∧Below w.heap.size w w':=by
 go_enter Tryz.func19,Tryz.ntmps19
 go_upto_region 1 with fail
 have fsz:(w.alloc (.cells #[.int .i64 r,.int .i64 C,.slice a m c] 24)).heap.size=w.heap.size+1:=by simp only[World.size_alloc]
 have fB:Below w.heap.size w (w.alloc (.cells #[.int .i64 r,.int .i64 C,.slice a m c] 24)):=(Below.refl _ _).alloc (Nat.le_refl _) _
 have fq0:(w.alloc (.cells #[.int .i64 r,.int .i64 C,.slice a m c] 24)).heap[w.heap.size]?=some (.cells #[.int .i64 r,.int .i64 C,.slice a m c] 24 (0,0)):=by have h:=World.alloc_heap_new w (.cells #[.int .i64 r,.int .i64 C,.slice a m c] 24);exact h
 generalize (w.alloc (.cells #[.int .i64 r,.int .i64 C,.slice a m c] 24))=W0 at fsz fB fq0 ⊢
 obtain ⟨x0,x1,x2,xl⟩:=c3_of fq0
 clear fq0 fsz
 go_wp2_with fail
 refine bodyPost_ret (v := .bool (decide (k<(m:Int)))) ?_ rfl ⟨rfl,fB⟩
 simp[results,Tryz.f19,go_sem]
def madeB (r C:Int) (cs:List Int) (er:Int) (r2 C2:Int) (ds:List Int) (bad:Int):Bool:=if bad≠0 then sameG r C cs 0 0 []&&(er==bad) else (er==0)&&sameG r C cs r2 C2 ds
theorem lmade_c (r C:Int) (a:Option Addr) (n c:Nat) (cs:List Int) (er:Int) (r2 C2:Int) (a2:Option Addr) (n2 c2:Nat) (ds:List Int) (bad:Int) (w:World) (h:IC w a n cs) (h2:IC w a2 n2 ds) :
  Calls Tryz.prog 24 #[.agg #[.int .i64 r,.int .i64 C,.slice a n c],.int .i64 er,.agg #[.int .i64 r2,.int .i64 C2,.slice a2 n2 c2],.int .i64 bad] w fun e w'=>e = .returned (.bool (madeB r C cs er r2 C2 ds bad))∧Below w.heap.size w w':=by
 have H0:=Lib.hid (fun W (hb:Below w.heap.size w W)=>rsame_c r C a n c cs 0 0 none 0 0 [] W (h.mono hb) ⟨⟨rfl,by omega⟩,fun k hk=>absurd hk (by omega)⟩)
 have H1:=Lib.hid (fun W (hb:Below w.heap.size w W)=>rsame_c r C a n c cs r2 C2 a2 n2 c2 ds W (h.mono hb) (h2.mono hb))
 have HD:Hid (madeB r C cs er r2 C2 ds bad=if bad≠0 then sameG r C cs 0 0 []&&(er==bad) else (er==0)&&sameG r C cs r2 C2 ds):=rfl
 generalize sameG r C cs 0 0 []=b0 at H0 HD
 generalize sameG r C cs r2 C2 ds=b1 at H1 HD
 generalize madeB r C cs er r2 C2 ds bad=R at HD ⊢
 clear h h2
 by_cases hb:bad=0
 ·have HR:Hid (R=((er==0)&&b1)):=by unfold Hid;rw[HD.out,if_neg (by simpa using hb)]
  have hb':(bad != 0)=false:=by simpa using hb
  obtain ⟨b,e1⟩:∃b,(er==0)=b:=⟨_,rfl⟩
  rw[e1] at HR
  clear hb HD
  cases b with
  | false =>
   go_enter Tryz.func24,Tryz.ntmps24
   go_upto_region 1 with fail
   have fsz:((w.alloc (.cells #[.int .i64 r,.int .i64 C,.slice a n c] 24)).alloc (.cells #[.int .i64 r2,.int .i64 C2,.slice a2 n2 c2] 24)).heap.size=w.heap.size+2:=by simp only[World.size_alloc] <;> omega
   have fB:Below w.heap.size w ((w.alloc (.cells #[.int .i64 r,.int .i64 C,.slice a n c] 24)).alloc (.cells #[.int .i64 r2,.int .i64 C2,.slice a2 n2 c2] 24)):=((Below.refl _ _).alloc (Nat.le_refl _) _).alloc (by simp only[World.size_alloc];omega) _
   have fq0:((w.alloc (.cells #[.int .i64 r,.int .i64 C,.slice a n c] 24)).alloc (.cells #[.int .i64 r2,.int .i64 C2,.slice a2 n2 c2] 24)).heap[w.heap.size]?=some (.cells #[.int .i64 r,.int .i64 C,.slice a n c] 24 (0,0)):=by have h:=World.alloc_heap_new w (.cells #[.int .i64 r,.int .i64 C,.slice a n c] 24);exact (Below.heap_alloc _ _ _ (by simp only[World.size_alloc];omega)).trans (h)
   have fq1:((w.alloc (.cells #[.int .i64 r,.int .i64 C,.slice a n c] 24)).alloc (.cells #[.int .i64 r2,.int .i64 C2,.slice a2 n2 c2] 24)).heap[w.heap.size+1]?=some (.cells #[.int .i64 r2,.int .i64 C2,.slice a2 n2 c2] 24 (0,0)):=by have h:=World.alloc_heap_new (w.alloc (.cells #[.int .i64 r,.int .i64 C,.slice a n c] 24)) (.cells #[.int .i64 r2,.int .i64 C2,.slice a2 n2 c2] 24);simp only[World.size_alloc] at h;exact h
   generalize ((w.alloc (.cells #[.int .i64 r,.int .i64 C,.slice a n c] 24)).alloc (.cells #[.int .i64 r2,.int .i64 C2,.slice a2 n2 c2] 24))=W0 at fsz fB fq0 fq1 ⊢
   obtain ⟨x0,x1,x2,xl⟩:=c3_of fq0
   obtain ⟨y0,y1,y2,yl⟩:=c3_of fq1
   clear fq0 fq1 fsz
   go_wp2_with fail
   refine bodyPost_ret (v := .bool false) ?_ rfl ⟨by rw[HR.out];rfl,fB⟩
   simp[results,Tryz.f24,go_sem]
  | true =>
   go_enter Tryz.func24,Tryz.ntmps24
   go_upto_region 1 with fail
   have fsz:((w.alloc (.cells #[.int .i64 r,.int .i64 C,.slice a n c] 24)).alloc (.cells #[.int .i64 r2,.int .i64 C2,.slice a2 n2 c2] 24)).heap.size=w.heap.size+2:=by simp only[World.size_alloc] <;> omega
   have fB:Below w.heap.size w ((w.alloc (.cells #[.int .i64 r,.int .i64 C,.slice a n c] 24)).alloc (.cells #[.int .i64 r2,.int .i64 C2,.slice a2 n2 c2] 24)):=((Below.refl _ _).alloc (Nat.le_refl _) _).alloc (by simp only[World.size_alloc];omega) _
   have fq0:((w.alloc (.cells #[.int .i64 r,.int .i64 C,.slice a n c] 24)).alloc (.cells #[.int .i64 r2,.int .i64 C2,.slice a2 n2 c2] 24)).heap[w.heap.size]?=some (.cells #[.int .i64 r,.int .i64 C,.slice a n c] 24 (0,0)):=by have h:=World.alloc_heap_new w (.cells #[.int .i64 r,.int .i64 C,.slice a n c] 24);exact (Below.heap_alloc _ _ _ (by simp only[World.size_alloc];omega)).trans (h)
   have fq1:((w.alloc (.cells #[.int .i64 r,.int .i64 C,.slice a n c] 24)).alloc (.cells #[.int .i64 r2,.int .i64 C2,.slice a2 n2 c2] 24)).heap[w.heap.size+1]?=some (.cells #[.int .i64 r2,.int .i64 C2,.slice a2 n2 c2] 24 (0,0)):=by have h:=World.alloc_heap_new (w.alloc (.cells #[.int .i64 r,.int .i64 C,.slice a n c] 24)) (.cells #[.int .i64 r2,.int .i64 C2,.slice a2 n2 c2] 24);simp only[World.size_alloc] at h;exact h
   generalize ((w.alloc (.cells #[.int .i64 r,.int .i64 C,.slice a n c] 24)).alloc (.cells #[.int .i64 r2,.int .i64 C2,.slice a2 n2 c2] 24))=W0 at fsz fB fq0 fq1 ⊢
   obtain ⟨x0,x1,x2,xl⟩:=c3_of fq0
   obtain ⟨y0,y1,y2,yl⟩:=c3_of fq1
   clear fq0 fq1 fsz
   go_wp2_with (first|(go_at_call 43;refine (H1.out _ (by (repeat (first|assumption|exact Below.refl _ _|refine keep_drew ?_|refine keep_alloc ?_ _|refine keep_trans ?_ (by assumption))))).mono ?_;rintro _ w2 ⟨rfl,hb2⟩)|fail)
   refine bodyPost_ret (v := .bool b1) ?_ rfl ⟨by rw[HR.out];rfl,keep_trans fB hb2⟩
   simp[results,Tryz.f24,go_sem]
 ·have HR:Hid (R=(b0&&(er==bad))):=by unfold Hid;rw[HD.out,if_pos hb]
  have hb':(bad != 0)=true:=by simpa using hb
  clear hb HD
  cases b0 with
  | false =>
   go_enter Tryz.func24,Tryz.ntmps24
   go_upto_region 1 with fail
   have fsz:((w.alloc (.cells #[.int .i64 r,.int .i64 C,.slice a n c] 24)).alloc (.cells #[.int .i64 r2,.int .i64 C2,.slice a2 n2 c2] 24)).heap.size=w.heap.size+2:=by simp only[World.size_alloc] <;> omega
   have fB:Below w.heap.size w ((w.alloc (.cells #[.int .i64 r,.int .i64 C,.slice a n c] 24)).alloc (.cells #[.int .i64 r2,.int .i64 C2,.slice a2 n2 c2] 24)):=((Below.refl _ _).alloc (Nat.le_refl _) _).alloc (by simp only[World.size_alloc];omega) _
   have fq0:((w.alloc (.cells #[.int .i64 r,.int .i64 C,.slice a n c] 24)).alloc (.cells #[.int .i64 r2,.int .i64 C2,.slice a2 n2 c2] 24)).heap[w.heap.size]?=some (.cells #[.int .i64 r,.int .i64 C,.slice a n c] 24 (0,0)):=by have h:=World.alloc_heap_new w (.cells #[.int .i64 r,.int .i64 C,.slice a n c] 24);exact (Below.heap_alloc _ _ _ (by simp only[World.size_alloc];omega)).trans (h)
   have fq1:((w.alloc (.cells #[.int .i64 r,.int .i64 C,.slice a n c] 24)).alloc (.cells #[.int .i64 r2,.int .i64 C2,.slice a2 n2 c2] 24)).heap[w.heap.size+1]?=some (.cells #[.int .i64 r2,.int .i64 C2,.slice a2 n2 c2] 24 (0,0)):=by have h:=World.alloc_heap_new (w.alloc (.cells #[.int .i64 r,.int .i64 C,.slice a n c] 24)) (.cells #[.int .i64 r2,.int .i64 C2,.slice a2 n2 c2] 24);simp only[World.size_alloc] at h;exact h
   generalize ((w.alloc (.cells #[.int .i64 r,.int .i64 C,.slice a n c] 24)).alloc (.cells #[.int .i64 r2,.int .i64 C2,.slice a2 n2 c2] 24))=W0 at fsz fB fq0 fq1 ⊢
   obtain ⟨x0,x1,x2,xl⟩:=c3_of fq0
   clear fq0 fq1 fsz
   go_wp2_with (first|(go_at_call 43;refine (H0.out _ (by (repeat (first|assumption|exact Below.refl _ _|refine keep_drew ?_|refine keep_alloc ?_ _|refine keep_trans ?_ (by assumption))))).mono ?_;rintro _ w2 ⟨rfl,hb2⟩)|fail)
   refine bodyPost_ret (v := .bool false) ?_ rfl ⟨by rw[HR.out];rfl,keep_trans fB hb2⟩
   simp[results,Tryz.f24,go_sem]
  | true =>
   go_enter Tryz.func24,Tryz.ntmps24
   go_upto_region 1 with fail
   have fsz:((w.alloc (.cells #[.int .i64 r,.int .i64 C,.slice a n c] 24)).alloc (.cells #[.int .i64 r2,.int .i64 C2,.slice a2 n2 c2] 24)).heap.size=w.heap.size+2:=by simp only[World.size_alloc] <;> omega
   have fB:Below w.heap.size w ((w.alloc (.cells #[.int .i64 r,.int .i64 C,.slice a n c] 24)).alloc (.cells #[.int .i64 r2,.int .i64 C2,.slice a2 n2 c2] 24)):=((Below.refl _ _).alloc (Nat.le_refl _) _).alloc (by simp only[World.size_alloc];omega) _
   have fq0:((w.alloc (.cells #[.int .i64 r,.int .i64 C,.slice a n c] 24)).alloc (.cells #[.int .i64 r2,.int .i64 C2,.slice a2 n2 c2] 24)).heap[w.heap.size]?=some (.cells #[.int .i64 r,.int .i64 C,.slice a n c] 24 (0,0)):=by have h:=World.alloc_heap_new w (.cells #[.int .i64 r,.int .i64 C,.slice a n c] 24);exact (Below.heap_alloc _ _ _ (by simp only[World.size_alloc];omega)).trans (h)
   have fq1:((w.alloc (.cells #[.int .i64 r,.int .i64 C,.slice a n c] 24)).alloc (.cells #[.int .i64 r2,.int .i64 C2,.slice a2 n2 c2] 24)).heap[w.heap.size+1]?=some (.cells #[.int .i64 r2,.int .i64 C2,.slice a2 n2 c2] 24 (0,0)):=by have h:=World.alloc_heap_new (w.alloc (.cells #[.int .i64 r,.int .i64 C,.slice a n c] 24)) (.cells #[.int .i64 r2,.int .i64 C2,.slice a2 n2 c2] 24);simp only[World.size_alloc] at h;exact h
   generalize ((w.alloc (.cells #[.int .i64 r,.int .i64 C,.slice a n c] 24)).alloc (.cells #[.int .i64 r2,.int .i64 C2,.slice a2 n2 c2] 24))=W0 at fsz fB fq0 fq1 ⊢
   obtain ⟨x0,x1,x2,xl⟩:=c3_of fq0
   clear fq0 fq1 fsz
   go_wp2_with (first|(go_at_call 43;refine (H0.out _ (by (repeat (first|assumption|exact Below.refl _ _|refine keep_drew ?_|refine keep_alloc ?_ _|refine keep_trans ?_ (by assumption))))).mono ?_;rintro _ w2 ⟨rfl,hb2⟩)|fail)
   refine bodyPost_ret (v := .bool (er==bad)) ?_ rfl ⟨by rw[HR.out];rfl,keep_trans fB hb2⟩
   simp[results,Tryz.f24,go_sem]
end
section
open Go Go.RowKit
attribute [local go_sem] over_cell
attribute [local go_sem] Oper.semAt_some
theorem lmade_v (r C:Int) (a:Option Addr) (n c:Nat) (cs:List Int) (er:Int) (r2 C2:Int) (a2:Option Addr) (n2 c2:Nat) (ds:List Int) (bad:Int) (w:World) (b:Bool) (hv:madeB r C cs er r2 C2 ds bad=b) (h:IC w a n cs) (h2:IC w a2 n2 ds) :
  Calls Tryz.prog 24 #[.agg #[.int .i64 r,.int .i64 C,.slice a n c],.int .i64 er,.agg #[.int .i64 r2,.int .i64 C2,.slice a2 n2 c2],.int .i64 bad] w fun e w'=>e = .returned (.bool b)∧Below w.heap.size w w':=by
 rw[← hv];exact lmade_c r C a n c cs er r2 C2 a2 n2 c2 ds bad w h h2
end
section
open Go Go.RowKit
attribute [local go_sem] over_cell
attribute [local go_sem] Oper.semAt_some
theorem sameG_refl (r C:Int) (cs:List Int):sameG r C cs r C cs=true:=by unfold sameG;simp[sameB]
theorem lgrids_t (a:Option Addr) (n c N:Nat) (css:List (List Int)) (a2:Option Addr) (c2:Nat) (w:World) (h:GL w a n N css) (h2:GL w a2 n N css) (hn:n≤100000) :
  Calls Tryz.prog 29 #[.slice a n c,.slice a2 n c2] w fun e w'=>e = .returned (.bool true)∧Below w.heap.size w w':=by
 have H1:=Lib.hid h
 have H2:=Lib.hid h2
 have hne:((n:Int) != (n:Int))=false:=by simp
 clear h h2
 go_enter Tryz.func29,Tryz.ntmps29
 go_wp2_with fail
 go_loopw [5,13] (fun _ s13 wr=>∃k:Nat,k≤n∧s13 = .int .i64 (k:Int)∧Below w.heap.size w wr) (fun _ s13 _=>n - (intOf s13).toNat)
 case atStart=>exact ⟨0,by omega,rfl,Below.refl _ _⟩
 case round =>
  obtain ⟨k,hk,rfl,hbr⟩:=hrel
  by_cases hlt:k<n
  ·have hki:(k:Int)<(n:Int):=by omega
   obtain ⟨b,off,ax,cx,rfl,hl,h0,h1,h2,hi,hcx⟩:=H1.out.2 k hlt
   obtain ⟨b2,off2,ay,cy,rfl,hl2,h02,h12,h22,hi2,hcy⟩:=H2.out.2 k hlt
   have g0:wr.cell? ⟨b,off+k*3,none⟩=some (.int .i64 (N:Int)):=by rw[show off+k*3=off+3*k by omega];exact (hbr.cell (p:=⟨b,off+3*k,none⟩) hl).trans h0
   have g1:wr.cell? ⟨b,off+k*3+1,none⟩=some (.int .i64 (N:Int)):=by rw[show off+k*3+1=off+(3*k+1) by omega];exact (hbr.cell (p:=⟨b,off+(3*k+1),none⟩) hl).trans h1
   have g2:wr.cell? ⟨b,off+k*3+2,none⟩=some (.slice ax (css[k]?.getD []).length cx):=by rw[show off+k*3+2=off+(3*k+2) by omega];exact (hbr.cell (p:=⟨b,off+(3*k+2),none⟩) hl).trans h2
   have f0:wr.cell? ⟨b2,off2+k*3,none⟩=some (.int .i64 (N:Int)):=by rw[show off2+k*3=off2+3*k by omega];exact (hbr.cell (p:=⟨b2,off2+3*k,none⟩) hl2).trans h02
   have f1:wr.cell? ⟨b2,off2+k*3+1,none⟩=some (.int .i64 (N:Int)):=by rw[show off2+k*3+1=off2+(3*k+1) by omega];exact (hbr.cell (p:=⟨b2,off2+(3*k+1),none⟩) hl2).trans h12
   have f2:wr.cell? ⟨b2,off2+k*3+2,none⟩=some (.slice ay (css[k]?.getD []).length cy):=by rw[show off2+k*3+2=off2+(3*k+2) by omega];exact (hbr.cell (p:=⟨b2,off2+(3*k+2),none⟩) hl2).trans h22
   have l1:=Nat.lt_of_lt_of_le hl hbr.size
   have l2:=Nat.lt_of_lt_of_le hl2 hbr.size
   generalize css[k]?.getD []=X at g2 f2 hi hi2
   have HS:=Lib.hid (fun W (hb:Below wr.heap.size wr W)=>rsame_c (N:Int) (N:Int) ax X.length cx X (N:Int) (N:Int) ay X.length cy X W (hi.mono (keep_trans hbr hb)) (hi2.mono (keep_trans hbr hb)))
   rw[sameG_refl] at HS
   clear h0 h1 h2 h02 h12 h22 hi hi2
   go_wp2_with fail
   refine wp_region_S (fun w'=>∃u,w'=over (wr) u) [] [(0,0),(0,1),(0,2),(0,3),(0,4),(0,5),(0,6),(0,7),(1,8),(0,9)] (by kernel_rfl) (by kernel_rfl) (by exact ⟨_,below_over (by repeat (first|assumption|exact Below.refl _ _|refine keep_drew ?_|refine keep_alloc ?_ _|refine keep_trans ?_ (by assumption)))⟩) ?_
   dsimp only[pickOps,nthOp]
   repeat (first|(refine wpS_skip rfl (fun K hK=>?_);go_big_quiet_op;refine hK _ ?_;clear hK K)|(refine wpS_quiet rfl rfl (fun K hK=>?_);go_big_quiet_op;refine hK _ ?_;clear hK K)|(refine wpS_loud ?_;go_wp2_with (first|(go_at_call 43;refine (HS.out _ (by (repeat (first|assumption|exact Below.refl _ _|refine keep_drew ?_|refine keep_alloc ?_ _|refine keep_trans ?_ (by assumption))))).mono ?_;rintro _ w5 ⟨rfl,hb5⟩)|fail);refine ⟨?_,?_⟩;focus (exact ⟨_,below_over (by repeat (first|assumption|exact Below.refl _ _|refine keep_drew ?_|refine keep_alloc ?_ _|refine keep_trans ?_ (by assumption)))⟩)))
   refine wpS_end ?_
   go_wp2_with fail
   go_roundw
   case rel=>exact ⟨k+1,by omega,by go_num,keep_trans hbr (show Below wr.heap.size wr w5 by (repeat (first|assumption|exact Below.refl _ _|refine keep_drew ?_|refine keep_alloc ?_ _|refine keep_trans ?_ (by assumption))))⟩
   case measure=>simp[intOf];omega
  ·have hno:¬(k:Int)<(n:Int):=by omega
   go_wp2_with fail
   refine bodyPost_ret (v := .bool true) ?_ rfl ⟨rfl,hbr⟩
   simp[results,Tryz.f29,go_sem]
end
section
open Go Go.RowKit
attribute [local go_sem] over_cell
attribute [local go_sem] Oper.semAt_some
theorem firstL_ne {x:Int} {l:List Int} (h:x≠0):firstL (x :: l)=x:=by
 unfold firstL
 rw[if_pos (by simpa using h)]
theorem firstL_z {l:List Int}:firstL (0 :: l)=firstL l:=by
 rw[firstL];simp
end
section
open Go Go.RowKit
attribute [local go_sem] over_cell
attribute [local go_sem] Oper.semAt_some
def IntsI (w:World) (xs:List Int) (e:Ending) (w':World):Prop:=∃a c,e = .returned (.slice a xs.length c)∧IC w' a xs.length xs∧Below w.heap.size w w'
end
section
open Go Go.RowKit
theorem ge_of {w:World} {R:Int} {X:List Int} {er:Int} {e:Ending} {w':World} (hg:GridE w R R X er e w') (hl:X.length≤1000):∃a2 c2,e = .returned (.tuple #[.agg #[.int .i64 R,.int .i64 R,.slice a2 X.length c2],.int .i64 er])∧IC w' a2 X.length X∧Below w.heap.size w w':=by
 obtain ⟨a2,c2,he,hi,_,hb⟩:=gv_of hg hl
 exact ⟨a2,c2,he,hi,hb⟩
theorem gr_of {w:World} {n:Int} {m:Nat} {xs:List Int} {e:Ending} {w':World} (hg:GridR w n m xs e w') (hm:m≤1000):∃a2 c2,e = .returned (.agg #[.int .i64 n,.int .i64 n,.slice a2 m c2])∧(∀b2 o2,a2=some ⟨b2,o2,none⟩→w.heap.size≤b2)∧IC w' a2 m xs∧Below w.heap.size w w':=by
 obtain ⟨g,he,ho,hb⟩:=hg
 refine ⟨some ⟨g,0,none⟩,m,he,fun b2 o2 e=>?_,ho.ic (by omega),hb⟩
 injection e with e
 injection e with e1
 rw[← e1]
 exact ho.blk.1
theorem made_bad {er:Int} (h:er≠0):madeB 0 0 [] er 0 0 [] er=true:=by unfold madeB sameG;simp[h,sameB]
theorem made_eq (N:Int) (X:List Int):madeB N N X 0 N N X 0=true:=by unfold madeB sameG;simp[sameB]
end
section
open Go Go.RowKit
attribute [local go_sem] over_cell
attribute [local go_sem] Oper.semAt_some
theorem lorder_c (n:Int) (w:World):Calls Tryz.prog 59 #[.int .i64 n] w fun e w'=>e = .returned (.int .i64 (ordE n))∧Below w.heap.size w w':=by
 by_cases h1:n<1
 ·have e:ordE n=3:=by unfold ordE whenV;rw[decide_eq_false (show ¬1≤n by omega)];rfl
  rw[e]
  go_enter Tryz.func59,Tryz.ntmps59
  go_wp2_with fail
  go_ret
  exact ⟨rfl,Below.refl _ _⟩
 ·by_cases h2:16<n
  ·have e:ordE n=3:=by unfold ordE whenV;rw[decide_eq_false (show ¬n≤16 by omega),Bool.and_false];rfl
   have d1:decide (n<1)=false:=decide_eq_false h1
   have d2:decide (16<n)=true:=decide_eq_true h2
   rw[e]
   clear h1 h2
   go_enter Tryz.func59,Tryz.ntmps59
   go_wp2_with fail
   go_ret
   exact ⟨rfl,Below.refl _ _⟩
  ·have e:ordE n=0:=by unfold ordE whenV;rw[decide_eq_true (show 1≤n by omega),decide_eq_true (show n≤16 by omega)];rfl
   have d1:decide (n<1)=false:=decide_eq_false h1
   have d2:decide (16<n)=false:=decide_eq_false h2
   rw[e]
   clear h1 h2
   go_enter Tryz.func59,Tryz.ntmps59
   go_wp2_with fail
   go_ret
   exact ⟨rfl,Below.refl _ _⟩
end
section
open Go Go.RowKit
attribute [local go_sem] over_cell
attribute [local go_sem] Oper.semAt_some
theorem rprime_c (q:Nat) (w:World) (hq:q≤16) :
  Calls Tryz.prog 171 #[.int .i64 (q:Int)] w fun e w'=>e = .returned (.bool (primeB q))∧Below w.heap.size w w':=by
 obtain ⟨R,hR⟩:∃R,R=primeB q:=⟨_,rfl⟩
 rw[← hR]
 have HR:=Lib.hid hR
 clear hR
 by_cases hq2:q<2
 ·have hqI:(q:Int)<2:=by omega
  have HN:Hid (R=false):=by unfold Hid;rw[HR.out];unfold primeB;rw[decide_eq_false (by omega)];rfl
  go_enter Tryz.func171,Tryz.ntmps171
  go_wp2_with fail
  refine bodyPost_ret (v := .bool false) ?_ rfl ⟨by rw[HN.out],Below.refl _ _⟩
  simp[results,Tryz.f171,go_sem]
 have hqI:¬(q:Int)<2:=by omega
 go_enter Tryz.func171,Tryz.ntmps171
 go_wp2_with fail
 go_loopw [2,3] (fun _ s3 wr=>∃i:Nat,2≤i∧i≤5∧s3 = .int .i64 (i:Int)∧Hid (∀j:Fin 6,2≤j.val→j.val<i→q % j.val≠0)∧wr=w) (fun _ s3 _=>6 - (intOf s3).toNat)
 case atStart=>exact ⟨2,by omega,by omega,rfl,fun j h1 h2=>absurd h2 (by omega),rfl⟩
 case round =>
  obtain ⟨i,hi1,hi2,rfl,hno,rfl⟩:=hrel
  have hii:i*i≤5*5:=Nat.mul_le_mul hi2 hi2
  have e1:(i:Int)*(i:Int)=((i*i:Nat):Int):=(Int.natCast_mul _ _).symm
  have e2:(q:Int) % (i:Int)=((q % i:Nat):Int):=(Int.natCast_emod _ _).symm
  have hne:(i:Int)≠0:=by omega
  by_cases hlt:i*i≤q
  ·have hi4:i≤4:=by
    by_cases e:i≤4
    ·exact e
    ·have:i=5:=by omega
     subst this;omega
   have hm:q % i≤q:=Nat.mod_le _ _
   by_cases h0:q % i=0
   ·have HN:Hid (R=false):=by unfold Hid;rw[HR.out];exact prime_no ⟨q,by omega⟩ ⟨i,by omega⟩ hi1 hlt h0
    generalize i*i=s at e1 hlt hii
    generalize q % i=m at e2 h0
    subst h0
    have hsI:(s:Int)≤(q:Int):=by omega
    go_wp2_with fail
    refine bodyPost_ret (v := .bool false) ?_ rfl ⟨by rw[HN.out],Below.refl _ _⟩
    simp[results,Tryz.f171,go_sem]
   ·have HN:Hid (∀j:Fin 6,2≤j.val→j.val<i+1→q % j.val≠0):=fun j h1 h2=>by
     by_cases e:j.val=i
     ·rw[e];exact h0
     ·exact hno.out j h1 (by omega)
    generalize i*i=s at e1 hlt hii
    generalize q % i=m at e2 h0 hm
    have hsI:(s:Int)≤(q:Int):=by omega
    have hmI:¬(m:Int)=0:=by omega
    go_wp2_with fail
    go_roundw
    case rel=>exact ⟨i+1,by omega,by omega,by go_num,HN,trivial⟩
    case measure=>simp[intOf];omega
  ·have HN:Hid (R=decide (2≤q)):=by unfold Hid;rw[HR.out];exact prime_end ⟨q,by omega⟩ ⟨i,by omega⟩ hi1 (fun j h1 h2=>hno.out j h1 h2) (by show q<i*i;omega)
   have HD:Hid (R=true):=by unfold Hid;rw[HN.out,decide_eq_true_eq];omega
   generalize i*i=s at e1 hlt hii
   have hsI:¬(s:Int)≤(q:Int):=by omega
   go_wp2_with fail
   refine bodyPost_ret (v := .bool true) ?_ rfl ⟨by rw[HD.out],Below.refl _ _⟩
   simp[results,Tryz.f171,go_sem]
def bseR (n:Nat):Int:=if n=4∨n=8∨n=16 then 2 else if n=9 then 3 else if primeB n=true then (n:Int) else 0
def modR (n:Nat):List Int:=if n=4 then [1,1] else if n=8 then [1,1,0] else if n=16 then [1,1,0,0] else if n=9 then [2,0] else [0]
theorem ic_lit6 {W:World} {b:Nat} {T:TypeId} (xs:List Int) (h:W.heap[b]?=some (.cells (xs.map (Value.int .i64)).toArray T (0,0))) (hl:xs.length≤1000):IC W (some ⟨b,0,none⟩) xs.length xs :=
 ⟨⟨rfl,by omega⟩,fun k hk=>⟨b,0,rfl,q_lt h,by rw[Nat.zero_add,q_cell h k];simp[hk]⟩⟩
def OwnsI (w:World) (xs:List Int) (e:Ending) (w':World):Prop:=∃a c,e = .returned (.slice a xs.length c)∧w'.ownsRow w.heap.size 3 1 (.slice a xs.length c) xs.length (xs.map (Value.int .i64))∧Below w.heap.size w w'
theorem rbase_c (n:Nat) (hn:n≤16) (w:World):Calls Tryz.prog 135 #[.int .i64 (n:Int)] w fun e w'=>e = .returned (.int .i64 (bseR n))∧Below w.heap.size w w':=by
 by_cases h4:n=4
 ·subst h4
  go_enter Tryz.func135,Tryz.ntmps135
  go_wp2_with fail
  refine bodyPost_ret (v := .int .i64 2) ?_ rfl ⟨rfl,Below.refl _ _⟩
  simp[results,Tryz.f135,go_sem]
 by_cases h8:n=8
 ·subst h8
  go_enter Tryz.func135,Tryz.ntmps135
  go_wp2_with fail
  refine bodyPost_ret (v := .int .i64 2) ?_ rfl ⟨rfl,Below.refl _ _⟩
  simp[results,Tryz.f135,go_sem]
 by_cases h16:n=16
 ·subst h16
  go_enter Tryz.func135,Tryz.ntmps135
  go_wp2_with fail
  refine bodyPost_ret (v := .int .i64 2) ?_ rfl ⟨rfl,Below.refl _ _⟩
  simp[results,Tryz.f135,go_sem]
 by_cases h9:n=9
 ·subst h9
  go_enter Tryz.func135,Tryz.ntmps135
  go_wp2_with fail
  refine bodyPost_ret (v := .int .i64 3) ?_ rfl ⟨rfl,Below.refl _ _⟩
  simp[results,Tryz.f135,go_sem]
 have HP:=Lib.hid (fun W=>rprime_c n W hn)
 have hb:bseR n=if primeB n=true then (n:Int) else 0:=by unfold bseR;rw[if_neg (by omega),if_neg h9]
 rw[hb]
 have d4:((n:Int)==4)=false:=by simpa using (show ¬(n:Int)=4 by omega)
 have d8:((n:Int)==8)=false:=by simpa using (show ¬(n:Int)=8 by omega)
 have d16:((n:Int)==16)=false:=by simpa using (show ¬(n:Int)=16 by omega)
 have d9:((n:Int)==9)=false:=by simpa using (show ¬(n:Int)=9 by omega)
 clear hb
 cases hp:primeB n with
 | true =>
  rw[hp] at HP
  rw[if_pos rfl]
  clear hp h4 h8 h16 h9
  go_enter Tryz.func135,Tryz.ntmps135
  go_wp2_with (first|(go_at_call 171;refine (HP.out _).mono ?_;rintro _ w5 ⟨rfl,hb5⟩)|fail)
  refine bodyPost_ret (v := .int .i64 (n:Int)) ?_ rfl ⟨rfl,hb5⟩
  simp[results,Tryz.f135,go_sem]
 | false =>
  rw[hp] at HP
  rw[if_neg (by simp)]
  clear hp h4 h8 h16 h9
  go_enter Tryz.func135,Tryz.ntmps135
  go_wp2_with (first|(go_at_call 171;refine (HP.out _).mono ?_;rintro _ w5 ⟨rfl,hb5⟩)|fail)
  refine bodyPost_ret (v := .int .i64 0) ?_ rfl ⟨rfl,hb5⟩
  simp[results,Tryz.f135,go_sem]
theorem rmodu_c (n:Nat) (w:World):Calls Tryz.prog 173 #[.int .i64 (n:Int)] w (IntsI w (modR n)):=by
 by_cases h4:n=4
 ·subst h4
  go_enter Tryz.func173,Tryz.ntmps173
  go_wp2_with fail
  refine bodyPost_ret (v := .slice (some ⟨w.heap.size,0,none⟩) 2 2) ?_ rfl ⟨_,_,rfl,ic_lit6 [1,1] (World.alloc_heap_new w (.cells #[.int .i64 1,.int .i64 1] 3)) (by decide),keep_alloc (Below.refl _ _) _⟩
  simp[results,Tryz.f173,go_sem]
 by_cases h8:n=8
 ·subst h8
  go_enter Tryz.func173,Tryz.ntmps173
  go_wp2_with fail
  refine bodyPost_ret (v := .slice (some ⟨w.heap.size,0,none⟩) 3 3) ?_ rfl ⟨_,_,rfl,ic_lit6 [1,1,0] (World.alloc_heap_new w (.cells #[.int .i64 1,.int .i64 1,.int .i64 0] 3)) (by decide),keep_alloc (Below.refl _ _) _⟩
  simp[results,Tryz.f173,go_sem]
 by_cases h16:n=16
 ·subst h16
  go_enter Tryz.func173,Tryz.ntmps173
  go_wp2_with fail
  refine bodyPost_ret (v := .slice (some ⟨w.heap.size,0,none⟩) 4 4) ?_ rfl ⟨_,_,rfl,ic_lit6 [1,1,0,0] (World.alloc_heap_new w (.cells #[.int .i64 1,.int .i64 1,.int .i64 0,.int .i64 0] 3)) (by decide),keep_alloc (Below.refl _ _) _⟩
  simp[results,Tryz.f173,go_sem]
 by_cases h9:n=9
 ·subst h9
  go_enter Tryz.func173,Tryz.ntmps173
  go_wp2_with fail
  refine bodyPost_ret (v := .slice (some ⟨w.heap.size,0,none⟩) 2 2) ?_ rfl ⟨_,_,rfl,ic_lit6 [2,0] (World.alloc_heap_new w (.cells #[.int .i64 2,.int .i64 0] 3)) (by decide),keep_alloc (Below.refl _ _) _⟩
  simp[results,Tryz.f173,go_sem]
 have hb:modR n=[0]:=by unfold modR;rw[if_neg h4,if_neg h8,if_neg h16,if_neg h9]
 rw[hb]
 have d4:((n:Int)==4)=false:=by simpa using (show ¬(n:Int)=4 by omega)
 have d8:((n:Int)==8)=false:=by simpa using (show ¬(n:Int)=8 by omega)
 have d16:((n:Int)==16)=false:=by simpa using (show ¬(n:Int)=16 by omega)
 have d9:((n:Int)==9)=false:=by simpa using (show ¬(n:Int)=9 by omega)
 clear hb h4 h8 h16 h9
 go_enter Tryz.func173,Tryz.ntmps173
 go_wp2_with fail
 refine bodyPost_ret (v := .slice (some ⟨w.heap.size,0,none⟩) 1 1) ?_ rfl ⟨_,_,rfl,ic_lit6 [0] (World.alloc_heap_new w (.cells #[.int .i64 0] 3)) (by decide),keep_alloc (Below.refl _ _) _⟩
 simp[results,Tryz.f173,go_sem]
theorem rdig_c (x p k:Nat) (hp1:1≤p) (hp2:p≤16) (hk:k≤16) (hx:x≤1000) (w:World):Calls Tryz.prog 172 #[.int .i64 (x:Int),.int .i64 (p:Int),.int .i64 (k:Int)] w (OwnsI w (dgtL p k x)):=by
 obtain ⟨i0,hi,hz0,hz1,hz2⟩:=info_parts infoInt
 have hne:(p:Int)≠0:=by omega
 have HS:Hid (∀j,dgtL p (j+1) x=dgtL p j x++[((x / p ^ j % p:Nat):Int)]):=fun j=>dgtL_snoc p j x
 have HL:Hid (∀j,(dgtL p j x).length=j):=fun j=>dgtL_len p j x
 have HX:Hid (∀j,x / p ^ (j+1)=x / p ^ j / p):=fun j=>by rw[Nat.pow_succ,Nat.div_div_eq_div_mul]
 have HX0:Hid (x=x / p ^ 0):=by unfold Hid;simp
 have HZ:Hid (dgtL p 0 x=[]):=rfl
 generalize dgtL p=dg at HS HL HZ ⊢
 obtain ⟨d,hd⟩:∃d:Nat→List Int,d=fun j=>dg j x:=⟨_,rfl⟩
 obtain ⟨v,hv⟩:∃v:Nat→Nat,v=fun j=>x / p ^ j:=⟨_,rfl⟩
 have HS:Hid (∀j,d (j+1)=d j++[((v j % p:Nat):Int)]):=by rw[hd,hv];exact HS
 have HL:Hid (∀j,(d j).length=j):=by rw[hd];exact HL
 have HX:Hid (∀j,v (j+1)=v j / p):=by rw[hv];exact HX
 have HX0:Hid (x=v 0):=by rw[hv];exact HX0
 have HZ:Hid (d 0=[]):=by rw[hd];exact HZ
 rw[show dg k x=d k by rw[hd]]
 clear hd hv
 go_enter Tryz.func172,Tryz.ntmps172
 go_wp2_with fail
 go_loopw [0,7,8] (fun s0 s7 s8 wr=>∃(j xv:Nat) (av:Option Addr) (cv:Nat),j≤k∧xv≤1000∧s8 = .int .i64 (j:Int)∧s0 = .int .i64 (xv:Int)∧s7 = .slice av (d j).length cv∧Hid (xv=v j)∧Hid (wr.ownsRow w.heap.size 3 1 (.slice av (d j).length cv) (d j).length ((d j).map (Value.int .i64)))∧Hid (Below w.heap.size w wr)) (fun _ _ s8 _=>k - (intOf s8).toNat)
 case atStart=>exact ⟨0,x,none,0,by omega,hx,rfl,rfl,by rw[HZ.out];rfl,HX0.out,by unfold Hid;rw[HZ.out];exact World.ownsRow_nil _ _ _ _,Below.refl _ _⟩
 case round =>
  obtain ⟨j,xv,av,cv,hj,hxv,rfl,rfl,rfl,hV,hO,hbr⟩:=hrel
  have HLJ:=Lib.hid (HL.out j)
  have hsz:=hbr.out.size
  by_cases hlt:j<k
  ·have hki:(j:Int)<(k:Int):=by omega
   have HSJ:=Lib.hid (HS.out j)
   have HXJ:=Lib.hid (HX.out j)
   rw[← hV.out] at HSJ HXJ
   have m1:(xv:Int) % (p:Int)=((xv % p:Nat):Int):=(Int.natCast_emod _ _).symm
   have m2:(xv:Int) / (p:Int)=((xv / p:Nat):Int):=(Int.natCast_ediv _ _).symm
   have hd2:xv / p≤1000:=Nat.le_trans (Nat.div_le_self _ _) hxv
   generalize xv % p=X at m1 HSJ
   generalize xv / p=Z at m2 HXJ hd2
   go_wp2_with (first|(at_builtin;refine wpList_append_ext _ rfl _ _ 22 rfl _ 3 i0 (.int .i64 0) 8 Tryz.underlying22 hi hz0 hz1 hz2 rfl (.slice av (d j).length cv) (d j).length _ rfl (hO.out.alloc _) (by rw[World.size_alloc];omega) ⟨wr.heap.size,0,none⟩ 1 1 [.int .i64 (X:Int)] rfl rfl (cell_one_new _ _ _) (by simp[Value.oneCell']) (by have:=HLJ.out;unfold maxLen;omega) (by have:=HLJ.out;omega) ?_;intro v7 w7 hown7 hst7 hx7;obtain ⟨a7,c7,rfl⟩:=owns_shape hown7)|fail)
   go_roundw
   case rel =>
    refine ⟨j+1,Z,a7,c7,by omega,hd2,by go_num,rfl,by rw[HSJ.out,List.length_append,List.length_singleton],HXJ.out.symm,?_,hst7.below' (by rw[World.size_alloc];omega) (hbr.out.alloc hsz _) (fun k e=>(hO.out.lt k e).1)⟩
    rw[HSJ.out,List.length_append,List.length_singleton,List.map_append]
    exact hown7
   case measure=>simp[intOf];omega
  ·have e:j=k:=by omega
   have hki:¬(j:Int)<(k:Int):=by omega
   rw[e] at hO ⊢
   clear e HLJ
   go_wp2_with fail
   refine bodyPost_ret (v := .slice av (d k).length cv) ?_ rfl ⟨av,cv,rfl,hO.out,hbr.out⟩
   simp[results,Tryz.f172,go_sem]
def numL (p:Nat) (l:List Int):Int:=l.foldr (fun c acc=>(p:Int)*acc+c) 0
theorem numL_drop (p:Nat) (l:List Int) {k:Nat} (hk:k<l.length):numL p (l.drop k)=(p:Int)*numL p (l.drop (k+1))+l[k]?.getD 0:=by
 rw[List.drop_eq_getElem_cons hk,List.getElem?_eq_getElem hk]
 rfl
theorem numL_end (p:Nat) (l:List Int):numL p (l.drop l.length)=0:=by rw[List.drop_length];rfl
theorem rnum_c (a:Option Addr) (n c:Nat) (l:List Int) (p:Nat) (hp2:p≤16) (hn:n≤100) (hb:∀k,k≤n→0≤numL p (l.drop k)∧numL p (l.drop k)≤1000000) (hl:∀k,k<n→0≤l[k]?.getD 0∧l[k]?.getD 0≤16) (w:World) (h:IC w a n l):Calls Tryz.prog 174 #[.slice a n c,.int .i64 (p:Int)] w fun e w'=>e = .returned (.int .i64 (numL p l))∧Below w.heap.size w w':=by
 have hln:=h.len
 have HE:Hid (numL p (l.drop n)=0):=by unfold Hid;rw[← hln];exact numL_end p l
 have HD:Hid (∀k,k<n→numL p (l.drop k)=(p:Int)*numL p (l.drop (k+1))+l[k]?.getD 0):=fun k hk=>numL_drop p l (by omega)
 have H0:Hid (numL p (l.drop 0)=numL p l):=by unfold Hid;rw[List.drop_zero]
 have HI:=Lib.hid h
 have HB:=Lib.hid hb
 have HLB:=Lib.hid hl
 obtain ⟨f,hf⟩:∃f:Nat→Int,f=fun k=>numL p (l.drop k):=⟨_,rfl⟩
 have HE:Hid (f n=0):=by rw[hf];exact HE
 have HD:Hid (∀k,k<n→f k=(p:Int)*f (k+1)+l[k]?.getD 0):=by rw[hf];exact HD
 have H0:Hid (f 0=numL p l):=by rw[hf];exact H0
 have HB:Hid (∀k,k≤n→0≤f k∧f k≤1000000):=by rw[hf];exact HB
 rw[← H0.out]
 clear h hln hb hl hf H0
 go_enter Tryz.func174,Tryz.ntmps174
 go_wp2_with fail
 go_loopw [5,6] (fun s5 s6 wr=>∃(k:Nat) (x:Int),k≤n∧s6 = .int .i64 ((k:Int) - 1)∧s5 = .int .i64 x∧0≤x∧x≤1000000∧Hid (x=f k)∧wr=w) (fun _ s6 _=>(intOf s6+1).toNat)
 case atStart=>exact ⟨n,0,by omega,rfl,rfl,by omega,by omega,HE.out.symm,rfl⟩
 case round =>
  obtain ⟨k,x,hk,rfl,rfl,hx0,hx1,hX,rfl⟩:=hrel
  cases k with
  | zero =>
   have hno:¬(0:Int)≤((0:Nat):Int) - 1:=by omega
   go_wp2_with fail
   refine bodyPost_ret (v := .int .i64 x) ?_ rfl ⟨by rw[hX.out],Below.refl _ _⟩
   simp[results,Tryz.f174,go_sem]
  | succ k =>
   have ek:((k+1:Nat):Int) - 1=(k:Int):=by omega
   rw[ek]
   have hki:(0:Int)≤(k:Int):=by omega
   have hkn:(k:Int)<(n:Int):=by omega
   obtain ⟨b,off,rfl,hbl,hc⟩:=HI.out.2 k (by omega)
   obtain ⟨hb0,hb1⟩:=HB.out k (by omega)
   obtain ⟨hl0,hl1⟩:=HLB.out k (by omega)
   have HN:=Lib.hid (HD.out k (by omega))
   rw[← hX.out] at HN
   generalize l[k]?.getD 0=Z at hc hl0 hl1 HN
   have hp0:0≤(p:Int)*x∧(p:Int)*x≤16*1000000:=⟨Int.mul_nonneg (by omega) hx0,Int.le_trans (Int.mul_le_mul_of_nonneg_right (show (p:Int)≤16 by omega) hx0) (Int.mul_le_mul_of_nonneg_left hx1 (by omega))⟩
   rw[HN.out] at hb0 hb1
   obtain ⟨q,hq⟩:∃q,(p:Int)*x=q:=⟨_,rfl⟩
   rw[hq] at hp0 hb0 hb1 HN
   have HN9:Hid (q+Z=f k):=HN.out.symm
   clear HN
   go_wp2_with fail
   go_roundw
   case rel=>exact ⟨k,q+Z,by omega,by go_num,by go_num,hb0,hb1,HN9,trivial⟩
   case measure=>simp[intOf]
end
section
open Go Go.RowKit
attribute [local go_sem] over_cell
attribute [local go_sem] Oper.semAt_some
theorem numL_map (p:Nat):∀l:List Int,numL p (l.map fun c=>c % (p:Int))=elemL p l
 | []=>rfl
 | c :: l=>by
  show (p:Int)*numL p (l.map fun c=>c % (p:Int))+c % (p:Int)=elemL p l*(p:Int)+c % (p:Int)
  rw[numL_map p l,Int.mul_comm]
def amTo (p:Nat) (a b:List Int):Nat→List Int
 | 0=>a
 | j+1=>(amTo p a b j).set j ((a[j]?.getD 0+b[j]?.getD 0) % (p:Int))
theorem amTo_eq (p:Nat) (a b:List Int):∀j,j≤a.length→amTo p a b j=((List.range j).map fun i=>(a[i]?.getD 0+b[i]?.getD 0) % (p:Int))++a.drop j
 | 0,_=>by simp[amTo]
 | j+1,h=>by
  rw[amTo,amTo_eq p a b j (by omega),List.set_append_right _ _ (by simp),List.length_map,List.length_range,Nat.sub_self,List.drop_eq_getElem_cons (show j<a.length by omega),List.set_cons_zero,List.range_succ,List.map_append,List.append_assoc]
  rfl
theorem amTo_at (p:Nat) (a b:List Int) {j:Nat} (h:j<a.length):(amTo p a b j)[j]?.getD 0=a[j]?.getD 0:=by
 rw[amTo_eq p a b j (by omega),List.getElem?_append_right (by simp),List.length_map,List.length_range,Nat.sub_self,List.getElem?_drop,Nat.add_zero]
theorem amTo_end (p:Nat) (a b:List Int):amTo p a b a.length=(sumL a b).map fun c=>c % (p:Int):=by
 rw[amTo_eq p a b a.length (Nat.le_refl _),List.drop_length,List.append_nil]
 unfold sumL
 rw[List.map_map];rfl
theorem elem_small {p k:Nat} (hp1:1≤p) (hp2:p≤16) (hk:k≤4) (l:List Int) (hl:l.length≤k):0≤elemL p l∧elemL p l≤65536:=by
 obtain ⟨h0,h1⟩:=elemL_num p hp1 l
 have h2:p ^ l.length≤16 ^ 4:=Nat.le_trans (Nat.pow_le_pow_left hp2 _) (Nat.pow_le_pow_right (by decide) (by omega))
 have h3:(16:Nat) ^ 4=65536:=by decide
 omega
theorem owns_oi {w:World} {xs:List Int} {e:Ending} {w':World} (h:OwnsI w xs e w') (h1:1≤xs.length):∃g c,e = .returned (.slice (some ⟨g,0,none⟩) xs.length c)∧OI w' w.heap.size g xs.length c xs∧Below w.heap.size w w':=by
 obtain ⟨a,c,he,ho,hb⟩:=h
 obtain ⟨g,rfl,h2⟩:=OI.of ho h1
 exact ⟨g,c,he,h2,hb⟩
theorem radd_c (n p k x y:Nat) (hn:n≤16) (hbs:bseR n=(p:Int)) (hmd:(modR n).length=k) (hp1:1≤p) (hp2:p≤16) (hk1:1≤k) (hk:k≤4) (hx:x≤1000) (hy:y≤1000) (w:World) :
  Calls Tryz.prog 136 #[.int .i64 (n:Int),.int .i64 (x:Int),.int .i64 (y:Int)] w fun e w'=>e = .returned (.int .i64 (elemL p (sumL (dgtL p k x) (dgtL p k y))))∧Below w.heap.size w w':=by
 have HBA:=Lib.hid (fun W=>rbase_c n hn W)
 rw[hbs] at HBA
 have HMO:Hid (∀W,Calls Tryz.prog 173 #[.int .i64 (n:Int)] W fun e w'=>∃a c,e = .returned (.slice a k c)∧Below W.heap.size W w'):=fun W=>(rmodu_c n W).mono fun e w' ⟨a,c,he,_,hb⟩=>⟨a,c,by rw[he,hmd],hb⟩
 have hdg:∀z:Nat,z≤1000→Hid (∀W,Calls Tryz.prog 172 #[.int .i64 (z:Int),.int .i64 (p:Int),.int .i64 (k:Int)] W fun e w'=>∃g c,e = .returned (.slice (some ⟨g,0,none⟩) k c)∧OI w' W.heap.size g k c (dgtL p k z)∧Below W.heap.size W w'):=fun z hz W=>by
  have hl:=dgtL_len p k z
  refine (rdig_c z p k hp1 hp2 (by omega) hz W).mono fun e w' h9=>?_
  obtain ⟨g,c,he,ho,hb⟩:=owns_oi h9 (by rw[hl];exact hk1)
  rw[hl] at he ho
  exact ⟨g,c,he,ho,hb⟩
 have HDX:=hdg x hx
 have HDY:=hdg y hy
 have la:=dgtL_len p k x
 have na:∀i,i<k→∃X:Nat,(dgtL p k x)[i]?.getD 0=(X:Int)∧X<p:=fun i hi=>⟨_,dgtL_get p k x i hi,Nat.mod_lt _ (by omega)⟩
 have nb:∀i,i<k→∃X:Nat,(dgtL p k y)[i]?.getD 0=(X:Int)∧X<p:=fun i hi=>⟨_,dgtL_get p k y i hi,Nat.mod_lt _ (by omega)⟩
 generalize dgtL p k x=a at HDX la na ⊢
 generalize dgtL p k y=b at HDY nb ⊢
 have HNA:=Lib.hid na
 have HNB:=Lib.hid nb
 have HA0:Hid (amTo p a b 0=a):=rfl
 have HA1:Hid (∀j,amTo p a b (j+1)=(amTo p a b j).set j ((a[j]?.getD 0+b[j]?.getD 0) % (p:Int))):=fun j=>rfl
 have HA2:Hid (∀j,j<k→(amTo p a b j)[j]?.getD 0=a[j]?.getD 0):=fun j hj=>amTo_at p a b (by omega)
 have HAE:Hid (amTo p a b k=(sumL a b).map fun c=>c % (p:Int)):=by unfold Hid;rw[← la];exact amTo_end p a b
 have hsl:(sumL a b).length=k:=by unfold sumL;simp[la]
 have HNU:Hid (∀W c g,IC W (some ⟨g,0,none⟩) k (amTo p a b k)→Calls Tryz.prog 174 #[.slice (some ⟨g,0,none⟩) k c,.int .i64 (p:Int)] W fun e w'=>e = .returned (.int .i64 (elemL p (sumL a b)))∧Below W.heap.size W w'):=fun W c g hi=>by
  rw[HAE.out] at hi
  have h9:=rnum_c (some ⟨g,0,none⟩) k c _ p hp2 (by omega) (fun t ht=>by
   rw[← List.map_drop,numL_map]
   have:=elem_small hp1 hp2 hk ((sumL a b).drop t) (by rw[List.length_drop];omega)
   omega) (fun t ht=>by
   rw[List.getElem?_map,List.getElem?_eq_getElem (by omega)]
   have h2:=Int.emod_nonneg (sumL a b)[t] (show (p:Int)≠0 by omega)
   have h3:=Int.emod_lt_of_pos (sumL a b)[t] (show (0:Int)<(p:Int) by omega)
   simp only[Option.map_some,Option.getD_some]
   omega) W hi
  rw[numL_map] at h9
  exact h9
 generalize elemL p (sumL a b)=R at HNU ⊢
 generalize amTo p a b=am at HA0 HA1 HA2 HNU
 have hne:(p:Int)≠0:=by omega
 have hxI:(x:Int)≤1000:=by omega
 clear HAE hsl na nb la hbs hmd hdg
 go_enter Tryz.func136,Tryz.ntmps136
 go_upto_region 2 with (first|(go_at_call 135;refine (HBA.out _).mono ?_;rintro _ w1 ⟨rfl,hb1⟩)|fail)
 have hK1:Below w.heap.size w w1:=hb1
 go_upto_region 3 with (first|(go_at_call 173;refine (HMO.out _).mono ?_;rintro _ w2 ⟨a2,c2,rfl,hb2⟩)|(go_at_call 172;(with_reducible refine (HDX.out _).mono ?_);rintro _ w3 ⟨g1,c1,rfl,ho1,hb3⟩;have hsA:w.heap.size≤w2.heap.size:=(show Below w.heap.size w w2 by (repeat (first|assumption|exact Below.refl _ _|refine keep_drew ?_|refine keep_alloc ?_ _|refine keep_trans ?_ (by assumption)))).size)|(go_at_call 172;(with_reducible refine (HDY.out _).mono ?_);rintro _ w5 ⟨g2,c3,rfl,ho2,hb5⟩;have hsB:w3.heap.size≤w2.heap.size:=(show Below w3.heap.size w3 w2 by (repeat (first|assumption|exact Below.refl _ _|refine keep_drew ?_|refine keep_alloc ?_ _|refine keep_trans ?_ (by assumption)))).size)|fail)
 have hB5:Below w.heap.size w w5:=by (repeat (first|assumption|exact Below.refl _ _|refine keep_drew ?_|refine keep_alloc ?_ _|refine keep_trans ?_ (by assumption)))
 have hB35:Below w3.heap.size w3 w5:=keep_trans hb2 hb5
 have OA:=Lib.hid ((ho1.keep hB35).base hsA)
 have OB:=Lib.hid (ho2.base (show w.heap.size≤w2.heap.size by have:=hB5.size;have:=ho1.blk;omega))
 have hgg:g1<g2:=by have:=ho1.blk;have:=ho2.blk;omega
 have HB5:=Lib.hid hB5
 clear ho1 ho2 hB5 hB35 hb5 hb3 hb2 hsA hsB hb1 hK1
 go_upto_region 4 with fail
 go_loopw [10] (fun s10 wr=>∃j:Nat,j≤k∧s10 = .int .i64 (j:Int)∧Hid (OI wr w.heap.size g1 k c1 (am j))∧Hid (OI wr w.heap.size g2 k c3 b)∧Hid (Below w.heap.size w wr)) (fun s10 _=>k - (intOf s10).toNat)
 case atStart=>exact ⟨0,by omega,rfl,by rw[HA0.out];exact OA.out,OB.out,HB5.out⟩
 case round =>
  obtain ⟨j,hj,rfl,hA,hB,hBe⟩:=hrel
  by_cases hlt:j<k
  ·have hki:(j:Int)<(k:Int):=by omega
   obtain ⟨u0,u1,u2⟩:=hA.out.at hlt
   obtain ⟨v0,v1,v2⟩:=hB.out.at hlt
   rw[HA2.out j hlt] at u0
   obtain ⟨X,hX,hX2⟩:=HNA.out j hlt
   obtain ⟨Y,hY,hY2⟩:=HNB.out j hlt
   have HS:=Lib.hid (HA1.out j)
   rw[hX] at u0
   rw[hY] at v0
   rw[hX,hY] at HS
   obtain ⟨s,hs⟩:∃s:Nat,s=X+Y:=⟨_,rfl⟩
   have es:(X:Int)+(Y:Int)=(s:Int):=by omega
   have em:(s:Int) % (p:Int)=((s % p:Nat):Int):=(Int.natCast_emod _ _).symm
   rw[es,em] at HS
   have hs2:s≤32:=by omega
   generalize s % p=m at em HS
   have hgj:=hA.out.blk
   have k1:=Lib.hid (hA.out.set j (m:Int))
   have k2:=Lib.hid (hB.out.other (i:=j) (b:=g1) (by omega) (.int .i64 (m:Int)))
   have k4:=Lib.hid (hBe.out.setCell (p:=⟨g1,j,none⟩) (show w.heap.size≤g1 by omega) (.int .i64 (m:Int)))
   rw[← HS.out] at k1
   clear hX hY hs hX2 hY2
   go_wp2_with fail
   refine wp_region_S (fun w'=>∃u,w'=over (wr) u) [14] [(0,0),(0,1),(0,2),(0,3),(0,4),(0,5),(0,6),(0,7),(0,8),(0,9),(0,10),(0,11),(0,12),(0,13),(2,14)] (by kernel_rfl) (by kernel_rfl) (by exact ⟨_,below_over (by repeat (first|assumption|exact Below.refl _ _|refine keep_drew ?_|refine keep_alloc ?_ _|refine keep_trans ?_ (by assumption)))⟩) ?_
   dsimp only[pickOps,nthOp]
   repeat (first|(refine wpS_skip rfl (fun K hK=>?_);go_big_quiet_op;refine hK _ ?_;clear hK K)|(refine wpS_quiet rfl rfl (fun K hK=>?_);go_big_quiet_op;refine hK _ ?_;clear hK K))
   refine wpS_late _ _ _ rfl ?_
   dsimp only[List.map]
   go_wp2
   refine NoPanic.normal ?_
   go_wp2_with fail
   go_roundw
   case rel=>exact ⟨j+1,by omega,by go_num,k1.out.drew,k2.out.drew,k4.out.drew⟩
   case measure=>simp[intOf];omega
  ·have e:j=k:=by omega
   have hki:¬(j:Int)<(k:Int):=by omega
   subst e
   have HNW:=Lib.hid (HNU.out wr c1 g1 (hA.out.ic (by omega)))
   go_wp2_with (first|(go_at_call 174;refine HNW.out.mono ?_;rintro _ w9 ⟨rfl,hb9⟩)|fail)
   refine bodyPost_ret (v := .int .i64 R) ?_ rfl ⟨rfl,keep_trans hBe.out hb9⟩
   simp[results,Tryz.f136,go_sem]
end
end Go.Proofs.YtmfpdakaeagdpaaGreat
