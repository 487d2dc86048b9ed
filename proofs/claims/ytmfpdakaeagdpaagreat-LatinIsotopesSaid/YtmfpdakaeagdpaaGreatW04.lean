/- Texts J20 to R0 of this proof, in one file. -/
import Derived.Test.YtmfpdakaeagdpaaGreatW01
import Derived.Test.YtmfpdakaeagdpaaGreatW02
import Derived.Test.YtmfpdakaeagdpaaGreatW03
import Derived.Below
import Derived.BigFrame
import Derived.BigQuiet
import Derived.Deep.CutBlock
import Derived.Deep.CutRange
import Derived.Deep.LoopGhost
import Derived.Deep.Quiet
import Derived.Deep.RegionHeld3
import Derived.KernelRfl
import Derived.Laws.BitsAllLaws
import Derived.Lib.Hide
import Derived.Lib.SliceRun
import Derived.LoopIn
import Derived.LoopNIn
import Derived.Maps.AppendAt
import Derived.Maps.OwnIn
import Derived.OneCell
import Derived.OrdersHeld
import Derived.OwnWalkIn
import Derived.RangeFuncBound
import Derived.RangeFuncCalls
import Derived.RangeFuncLeaves
import Derived.RangeFuncNested
import Derived.Shelf.Abstract
import Derived.Still
import Derived.TacticsInMore
import Derived.Test.YtmfpdakaeagdpaaGreatProg
import Derived.WalkKit
import Derived.WalkLawsBesides
import Derived.WalkSpells
namespace Go.Proofs.YtmfpdakaeagdpaaGreat
set_option maxRecDepth 100000
set_option maxHeartbeats 16000000
section
open Go Go.RowKit
attribute [local go_sem] over_cell
attribute [local go_sem] Oper.semAt_some
theorem tk_zero {w:World} {b:Nat} {T:TypeId} (h:w.heap[b]?=some (.cells (Array.replicate 32 (.int .u32 0)) T (0,0))):TkW w b (fun _=>0) (fun _=>0) :=
 ⟨q_lt h,fun i hi=>⟨by rw[q_cell h,Array.getElem?_replicate,if_pos (by omega)];rfl,q_free h i⟩,fun i hi=>⟨by rw[q_cell h,Array.getElem?_replicate,if_pos (by omega)];rfl,q_free h (16+i)⟩⟩
theorem chk_c (r:Int) (C:Nat) (a:Option Addr) (n c:Nat) (cs:List Int) (low:Int) (w:World) (h:IC w a n cs) (hC:1≤C) (hC2:C≤16) (hlow : -1≤low) (hn:n≤C*16) :
  Calls Tryz.prog 114 #[.agg #[.int .i64 r,.int .i64 (C:Int),.slice a n c],.int .i64 low,.int .i64 (C:Int)] w fun e w'=>e = .returned (.int .i64 (symE low C cs))∧Below w.heap.size w w':=by
 have hm:=h.small
 go_enter Tryz.func114,Tryz.ntmps114
 go_wp2_with fail
 have fsz:(((w.alloc (.cells #[.int .i64 r,.int .i64 (C:Int),.slice a n c] 24)).alloc (.cells #[.int .i64 low] 3)).alloc (.cells #[.int .i64 (C:Int)] 3)).heap.size=w.heap.size+3:=by simp only[World.size_alloc] <;> omega
 have fB:Below w.heap.size w (((w.alloc (.cells #[.int .i64 r,.int .i64 (C:Int),.slice a n c] 24)).alloc (.cells #[.int .i64 low] 3)).alloc (.cells #[.int .i64 (C:Int)] 3)):=(((Below.refl _ _).alloc (Nat.le_refl _) _).alloc (by simp only[World.size_alloc];omega) _).alloc (by simp only[World.size_alloc];omega) _
 have fq0:(((w.alloc (.cells #[.int .i64 r,.int .i64 (C:Int),.slice a n c] 24)).alloc (.cells #[.int .i64 low] 3)).alloc (.cells #[.int .i64 (C:Int)] 3)).heap[w.heap.size]?=some (.cells #[.int .i64 r,.int .i64 (C:Int),.slice a n c] 24 (0,0)):=by have h:=World.alloc_heap_new w (.cells #[.int .i64 r,.int .i64 (C:Int),.slice a n c] 24);exact (Below.heap_alloc _ _ _ (by simp only[World.size_alloc];omega)).trans ((Below.heap_alloc _ _ _ (by simp only[World.size_alloc];omega)).trans (h))
 have fq1:(((w.alloc (.cells #[.int .i64 r,.int .i64 (C:Int),.slice a n c] 24)).alloc (.cells #[.int .i64 low] 3)).alloc (.cells #[.int .i64 (C:Int)] 3)).heap[w.heap.size+1]?=some (.cells #[.int .i64 low] 3 (0,0)):=by have h:=World.alloc_heap_new (w.alloc (.cells #[.int .i64 r,.int .i64 (C:Int),.slice a n c] 24)) (.cells #[.int .i64 low] 3);simp only[World.size_alloc] at h;exact (Below.heap_alloc _ _ _ (by simp only[World.size_alloc];omega)).trans (h)
 have fq2:(((w.alloc (.cells #[.int .i64 r,.int .i64 (C:Int),.slice a n c] 24)).alloc (.cells #[.int .i64 low] 3)).alloc (.cells #[.int .i64 (C:Int)] 3)).heap[w.heap.size+1+1]?=some (.cells #[.int .i64 (C:Int)] 3 (0,0)):=by have h:=World.alloc_heap_new ((w.alloc (.cells #[.int .i64 r,.int .i64 (C:Int),.slice a n c] 24)).alloc (.cells #[.int .i64 low] 3)) (.cells #[.int .i64 (C:Int)] 3);simp only[World.size_alloc] at h;exact h
 generalize (((w.alloc (.cells #[.int .i64 r,.int .i64 (C:Int),.slice a n c] 24)).alloc (.cells #[.int .i64 low] 3)).alloc (.cells #[.int .i64 (C:Int)] 3))=W0 at fsz fB fq0 fq1 fq2 ⊢
 have H0:=Lib.hid (h.mono fB)
 have HC:Hid (Calls Tryz.prog 138 #[.slice a n c,.func (.func 166) #[] #[.pointer (some ⟨w.heap.size+1,0,none⟩),.pointer (some ⟨w.heap.size+2,0,none⟩)]] W0 fun e w'=>e = .returned (.bool (cs.any fun x=>decide (x<low)||decide ((C:Int)≤x)))∧Below W0.heap.size W0 w'):=by
  have h1:=containsFuncI_c a n c cs 166 #[.pointer (some ⟨w.heap.size+1,0,none⟩),.pointer (some ⟨w.heap.size+2,0,none⟩)] (fun k=>decide (cs[k]?.getD 0<low)||decide ((C:Int)≤cs[k]?.getD 0)) W0 H0.out chk1_fn (fun k hk W hb=>by
   refine (chk1_c _ low (C:Int) _ _ W (q_cell (keepq hb fq1) 0) (q_cell (keepq hb fq2) 0)).mono ?_
   rintro _ w1 ⟨rfl,rfl⟩
   exact ⟨rfl,Below.refl _ _⟩)
  have h2:=anyP_any (f:=fun x=>decide (x<low)||decide ((C:Int)≤x)) (cs:=cs)
  rw[h.len] at h2
  rw[h2] at h1
  exact h1
 have HS:Hid (symE low C cs=if (cs.any fun x=>decide (x<low)||decide ((C:Int)≤x))=true then 3 else if twiceB C cs=true then 17 else 0):=rfl
 have HV:Hid ((cs.any fun x=>decide (x<low)||decide ((C:Int)≤x))=false→∀k,k<n→low≤cs[k]?.getD 0∧cs[k]?.getD 0<(C:Int)):=fun e k hk=>by
  rw[List.any_eq_false] at e
  have hk2:k<cs.length:=by rw[h.len];exact hk
  have:=e cs[k] (List.getElem_mem hk2)
  rw[List.getElem?_eq_getElem hk2,Option.getD_some]
  simp only[Bool.or_eq_true,decide_eq_true_eq,not_or] at this
  omega
 have HL:=Lib.hid h.len
 clear h
 generalize (cs.any fun x=>decide (x<low)||decide ((C:Int)≤x))=av at HC HS HV
 obtain ⟨x0,x1,x2,xl⟩:W0.cell? ⟨w.heap.size,0,none⟩=some (.int .i64 r)∧W0.cell? ⟨w.heap.size,1,none⟩=some (.int .i64 (C:Int))∧W0.cell? ⟨w.heap.size,2,none⟩=some (.slice a n c)∧w.heap.size<W0.heap.size:=⟨q_cell fq0 0,q_cell fq0 1,q_cell fq0 2,q_lt fq0⟩
 clear fq0 fq1 fq2 fsz
 go_wp2_with fail
 refine HC.out.mono ?_
 rintro _ w1 ⟨rfl,hb1⟩
 cases av with
 | true =>
  rw[if_pos rfl] at HS
  go_wp2_with fail
  go_ret
  exact ⟨ret_int HS.out.symm,keep_trans fB hb1⟩
 | false =>
  rw[if_neg (by decide)] at HS
  have HV2:=Lib.hid (HV.out rfl)
  have y1:=(hb1.cell (p:=⟨w.heap.size,1,none⟩) xl).trans x1
  have y2:=(hb1.cell (p:=⟨w.heap.size,2,none⟩) xl).trans x2
  have yl:=Nat.lt_of_lt_of_le xl hb1.size
  clear x0 x1 x2 HV
  go_wp2_with fail
  have gsz:(w1.alloc (.cells #[.int .u32 0,.int .u32 0,.int .u32 0,.int .u32 0,.int .u32 0,.int .u32 0,.int .u32 0,.int .u32 0,.int .u32 0,.int .u32 0,.int .u32 0,.int .u32 0,.int .u32 0,.int .u32 0,.int .u32 0,.int .u32 0,.int .u32 0,.int .u32 0,.int .u32 0,.int .u32 0,.int .u32 0,.int .u32 0,.int .u32 0,.int .u32 0,.int .u32 0,.int .u32 0,.int .u32 0,.int .u32 0,.int .u32 0,.int .u32 0,.int .u32 0,.int .u32 0] 155)).heap.size=w1.heap.size+1:=by simp only[World.size_alloc]
  have gB:Below w1.heap.size w1 (w1.alloc (.cells #[.int .u32 0,.int .u32 0,.int .u32 0,.int .u32 0,.int .u32 0,.int .u32 0,.int .u32 0,.int .u32 0,.int .u32 0,.int .u32 0,.int .u32 0,.int .u32 0,.int .u32 0,.int .u32 0,.int .u32 0,.int .u32 0,.int .u32 0,.int .u32 0,.int .u32 0,.int .u32 0,.int .u32 0,.int .u32 0,.int .u32 0,.int .u32 0,.int .u32 0,.int .u32 0,.int .u32 0,.int .u32 0,.int .u32 0,.int .u32 0,.int .u32 0,.int .u32 0] 155)):=(Below.refl _ _).alloc (Nat.le_refl _) _
  have gq0:(w1.alloc (.cells #[.int .u32 0,.int .u32 0,.int .u32 0,.int .u32 0,.int .u32 0,.int .u32 0,.int .u32 0,.int .u32 0,.int .u32 0,.int .u32 0,.int .u32 0,.int .u32 0,.int .u32 0,.int .u32 0,.int .u32 0,.int .u32 0,.int .u32 0,.int .u32 0,.int .u32 0,.int .u32 0,.int .u32 0,.int .u32 0,.int .u32 0,.int .u32 0,.int .u32 0,.int .u32 0,.int .u32 0,.int .u32 0,.int .u32 0,.int .u32 0,.int .u32 0,.int .u32 0] 155)).heap[w1.heap.size]?=some (.cells #[.int .u32 0,.int .u32 0,.int .u32 0,.int .u32 0,.int .u32 0,.int .u32 0,.int .u32 0,.int .u32 0,.int .u32 0,.int .u32 0,.int .u32 0,.int .u32 0,.int .u32 0,.int .u32 0,.int .u32 0,.int .u32 0,.int .u32 0,.int .u32 0,.int .u32 0,.int .u32 0,.int .u32 0,.int .u32 0,.int .u32 0,.int .u32 0,.int .u32 0,.int .u32 0,.int .u32 0,.int .u32 0,.int .u32 0,.int .u32 0,.int .u32 0,.int .u32 0] 155 (0,0)):=by have h:=World.alloc_heap_new w1 (.cells #[.int .u32 0,.int .u32 0,.int .u32 0,.int .u32 0,.int .u32 0,.int .u32 0,.int .u32 0,.int .u32 0,.int .u32 0,.int .u32 0,.int .u32 0,.int .u32 0,.int .u32 0,.int .u32 0,.int .u32 0,.int .u32 0,.int .u32 0,.int .u32 0,.int .u32 0,.int .u32 0,.int .u32 0,.int .u32 0,.int .u32 0,.int .u32 0,.int .u32 0,.int .u32 0,.int .u32 0,.int .u32 0,.int .u32 0,.int .u32 0,.int .u32 0,.int .u32 0] 155);exact h
  generalize (w1.alloc (.cells #[.int .u32 0,.int .u32 0,.int .u32 0,.int .u32 0,.int .u32 0,.int .u32 0,.int .u32 0,.int .u32 0,.int .u32 0,.int .u32 0,.int .u32 0,.int .u32 0,.int .u32 0,.int .u32 0,.int .u32 0,.int .u32 0,.int .u32 0,.int .u32 0,.int .u32 0,.int .u32 0,.int .u32 0,.int .u32 0,.int .u32 0,.int .u32 0,.int .u32 0,.int .u32 0,.int .u32 0,.int .u32 0,.int .u32 0,.int .u32 0,.int .u32 0,.int .u32 0] 155))=W2 at gsz gB gq0 ⊢
  have HT0:=Lib.hid (tk_zero gq0)
  have HX:=Lib.hid (fun W (hb:Below w1.heap.size w1 W)=>And.intro ((hb.cell (p:=⟨w.heap.size,1,none⟩) yl).trans y1) (Nat.lt_of_lt_of_le yl hb.size))
  have HI:=Lib.hid (fun W (hb:Below w1.heap.size w1 W)=>(H0.out.mono hb1).mono hb)
  have HW:=Lib.hid (keep_trans fB hb1)
  have hgB:Below w1.heap.size w1 W2:=gB
  have hgl:w1.heap.size<W2.heap.size:=q_lt gq0
  clear gq0 gB gsz y1 y2 yl xl hb1 fB H0 HC
  generalize hbt:w1.heap.size=bt at *
  go_loopw [8,9,17] (fun _ _ iv wr=>∃k:Nat,k≤n∧iv = .int .i64 k∧Hid (NoTwice C cs k)∧Hid (TkW wr bt (rowM C cs k) (colM C cs k))∧Below bt w1 wr) (fun _ _ iv _=>n - (intOf iv).toNat)
  case atStart=>exact ⟨0,by omega,rfl,noTwice_zero,HT0.out,hgB⟩
  case round =>
   obtain ⟨k,hk,rfl,hnt,htk,hbr⟩:=hrel
   by_cases hlt:k<n
   ·obtain ⟨bx,ox,rfl,hbx,hcx⟩:=(HI.out _ hbr).2 k hlt
    obtain ⟨y1,yl⟩:=HX.out _ hbr
    have hv:=HV2.out k hlt
    have hki:(k:Int)<(n:Int):=by omega
    have HKL:Hid (k<cs.length):=by unfold Hid;rw[HL.out];exact hlt
    by_cases hneg:cs[k]?.getD 0<0
    ·have hskip:Hid (NoTwice C cs (k+1)∧∀W,TkW W bt (rowM C cs k) (colM C cs k)→TkW W bt (rowM C cs (k+1)) (colM C cs (k+1))) :=
      ⟨noTwice_succ hnt.out (fun h=>absurd h (by omega)),fun W h=>h.same (fun i _=>(rowM_skip hneg i).symm) (fun i _=>(colM_skip hneg i).symm)⟩
     have hx:cs[k]?.getD 0 = -1:=by omega
     rw[hx] at hcx
     clear hv hx hneg
     go_wp2_with fail
     refine wp_region_S (fun w'=>∃u,w'=over (wr) u) [] [(0,0),(0,1),(0,2),(0,3),(0,4),(0,5),(0,6),(0,7),(0,8),(0,9),(0,10),(0,11),(1,12),(0,13),(0,14)] (by kernel_rfl) (by kernel_rfl) (by exact ⟨_,below_over (by repeat (first|assumption|exact Below.refl _ _|refine keep_drew ?_|refine keep_alloc ?_ _|refine keep_trans ?_ (by assumption)))⟩) ?_
     dsimp only[pickOps,nthOp]
     repeat (first|(refine wpS_skip rfl (fun K hK=>?_);go_big_quiet_op;refine hK _ ?_;clear hK K)|(refine wpS_quiet rfl rfl (fun K hK=>?_);go_big_quiet_op;refine hK _ ?_;clear hK K)|(refine wpS_loud ?_;go_wp2;refine ⟨?_,?_⟩;focus (exact ⟨_,below_over (by repeat (first|assumption|exact Below.refl _ _|refine keep_drew ?_|refine keep_alloc ?_ _|refine keep_trans ?_ (by assumption)))⟩)))
     refine wpS_end ?_
     go_wp2_with fail
     go_roundw
     case rel=>exact ⟨k+1,by omega,by go_num,hskip.out.1,hskip.out.2 _ (htk.out.mono ((Below.refl _ _).drew) htk.out.lt),hbr.drew⟩
     case measure=>simp[intOf];omega
    ·have hx0:0≤cs[k]?.getD 0:=by omega
     have hCI:(C:Int)≠0:=by omega
     have hC0:(0:Int)<(C:Int):=by omega
     have hne:((cs[k]?.getD 0) != -1)=true:=by simp;omega
     have hq:wrap64 ((k:Int) / (C:Int))=((k / C:Nat):Int):=by
      rw[← Int.natCast_ediv]
      have h1:k / C≤k:=Nat.div_le_self _ _
      generalize k / C=q at h1 ⊢
      unfold wrap64
      omega
     have hr2:(k:Int) % (C:Int)=((k % C:Nat):Int):=by rw[← Int.natCast_emod]
     have hi16:k / C<16:=Nat.div_lt_of_lt_mul (by omega)
     have hj16:k % C<16:=Nat.lt_of_lt_of_le (Nat.mod_lt _ (by omega)) hC2
     have hall:∀j:Nat,cs[j]?.getD 0<((32:Nat):Int):=fun j=>by
      by_cases hj:j<n
      ·have:=(HV2.out j hj).2;omega
      ·rw[List.getElem?_eq_none (by rw[HL.out];omega)];decide
     have hR:rowM C cs k (k / C)<4294967296:=maskBy_lt (n:=32) hall
     have hK:colM C cs k (k % C)<4294967296:=maskBy_lt (n:=32) hall
     have hx32:cs[k]?.getD 0<32:=hall k
     by_cases htw:((rowM C cs k (k / C)).testBit (cs[k]?.getD 0).toNat||(colM C cs k (k % C)).testBit (cs[k]?.getD 0).toNat)=true
     ·have HP:Hid (∀W,TkW W bt (rowM C cs k) (colM C cs k)→Calls Tryz.prog 155 #[.pointer (some ⟨bt,0,none⟩),.int .i64 (wrap64 ((k:Int) / (C:Int))),.int .i64 ((k:Int) % (C:Int)),.int .i64 (cs[k]?.getD 0)] W fun e w'=>e = .returned (.bool false)∧W=w'):=fun W ht=>by
       rw[hq,hr2]
       exact put_no bt _ _ _ _ _ W hi16 hj16 hx0 hx32 hR hK ht.lt (ht.row _ hi16).1 (ht.col _ hj16).1 htw
      have hF:=Lib.hid (twice_at HKL.out hx0 (by simpa using htw))
      rw[hF.out,if_pos rfl] at HS
      clear hq hr2 hi16 hj16 hall hR hK htw hv HV2
      go_wp2_with fail
      refine wp_region_T (fun w'=>∃u,w'=over (wr) u) [0,1,2,3,4,7,8,11] [12,13,14] [(0,5),(0,6),(0,9),(0,10),(2,12),(2,13),(2,14)] (by kernel_rfl) (by kernel_rfl) (by exact ⟨_,below_over (by repeat (first|assumption|exact Below.refl _ _|refine keep_drew ?_|refine keep_alloc ?_ _|refine keep_trans ?_ (by assumption)))⟩) ?_
      dsimp only[pickF,nthOp]
      repeat (first|(refine wpF_skip rfl (fun K hK=>?_);go_big_quiet_op;refine hK _ ?_;clear hK K)|(refine wpF_quiet rfl rfl (fun K hK=>?_);go_big_quiet_op;refine hK _ ?_;clear hK K))
      refine wpF_end ?_
      dsimp only[pickOps,nthOp]
      repeat (first|(refine wpS_skip rfl (fun K hK=>?_);go_big_quiet_op;refine hK _ ?_;clear hK K)|(refine wpS_quiet rfl rfl (fun K hK=>?_);go_big_quiet_op;refine hK _ ?_;clear hK K))
      refine wpS_late _ _ _ rfl ?_
      dsimp only[List.map]
      go_wp2_with ((go_at_call 155;refine (HP.out _ (htk.out.mono ((Below.refl _ _).drew) htk.out.lt)).mono ?_;rintro _ w2 ⟨rfl,rfl⟩))
      refine NoPanic.normal ?_
      go_wp2_with fail
      go_ret
      exact ⟨ret_int HS.out.symm,HW.out.trans ((hbr.mono (by have:=HW.out.size;omega)).drew)⟩
     ·have HP:Hid (∀W,TkW W bt (rowM C cs k) (colM C cs k)→Calls Tryz.prog 155 #[.pointer (some ⟨bt,0,none⟩),.int .i64 (wrap64 ((k:Int) / (C:Int))),.int .i64 ((k:Int) % (C:Int)),.int .i64 (cs[k]?.getD 0)] W fun e w'=>e = .returned (.bool true)∧TkW w' bt (rowM C cs (k+1)) (colM C cs (k+1))∧Below bt W w'):=fun W ht=>by
       rw[hq,hr2]
       refine (put_yes bt _ _ _ _ _ W hi16 hj16 hx0 hx32 hR hK ht.lt (ht.row _ hi16).1 (ht.col _ hj16).1 (ht.row _ hi16).2 (ht.col _ hj16).2 (by simpa using htw)).mono ?_
       rintro _ w2 ⟨rfl,rfl⟩
       refine ⟨rfl,(ht.put hi16 hj16).same (fun i _=>?_) (fun i _=>?_),Below.drew (Below.setCell (Below.setCell (Below.refl bt W) (p:=⟨bt,k / C,none⟩) (Nat.le_refl bt) _) (p:=⟨bt,16+k % C,none⟩) (Nat.le_refl bt) _)⟩
       ·rw[rowM_succ hx0]
        by_cases e:i=k / C
        ·subst e;rw[if_pos rfl]
        ·rw[if_neg e,if_neg (fun h=>e h.symm)]
       ·rw[colM_succ hx0]
        by_cases e:i=k % C
        ·subst e;rw[if_pos rfl]
        ·rw[if_neg e,if_neg (fun h=>e h.symm)]
      have hN2:Hid (NoTwice C cs (k+1)):=noTwice_succ hnt.out (fun _=>by rw[Bool.not_eq_true,Bool.or_eq_false_iff] at htw;exact htw)
      clear hq hr2 hi16 hj16 hall hR hK htw hv HV2
      go_wp2_with fail
      refine wp_region_T (fun w'=>∃u,w'=over (wr) u) [0,1,2,3,4,7,8,11] [12,13,14] [(0,5),(0,6),(0,9),(0,10),(2,12),(2,13),(2,14)] (by kernel_rfl) (by kernel_rfl) (by exact ⟨_,below_over (by repeat (first|assumption|exact Below.refl _ _|refine keep_drew ?_|refine keep_alloc ?_ _|refine keep_trans ?_ (by assumption)))⟩) ?_
      dsimp only[pickF,nthOp]
      repeat (first|(refine wpF_skip rfl (fun K hK=>?_);go_big_quiet_op;refine hK _ ?_;clear hK K)|(refine wpF_quiet rfl rfl (fun K hK=>?_);go_big_quiet_op;refine hK _ ?_;clear hK K))
      refine wpF_end ?_
      dsimp only[pickOps,nthOp]
      repeat (first|(refine wpS_skip rfl (fun K hK=>?_);go_big_quiet_op;refine hK _ ?_;clear hK K)|(refine wpS_quiet rfl rfl (fun K hK=>?_);go_big_quiet_op;refine hK _ ?_;clear hK K))
      refine wpS_late _ _ _ rfl ?_
      dsimp only[List.map]
      go_wp2_with ((go_at_call 155;refine (HP.out _ (htk.out.mono ((Below.refl _ _).drew) htk.out.lt)).mono ?_;rintro _ w2 ⟨rfl,htk2,hb2⟩))
      refine NoPanic.normal ?_
      go_wp2_with fail
      go_roundw
      case rel=>exact ⟨k+1,by omega,by go_num,hN2.out,htk2,hbr.trans (((Below.refl _ _).drew).trans hb2)⟩
      case measure=>simp[intOf];omega
   ·have e:k=n:=by omega
    subst e
    have hF:=Lib.hid (noTwice_end (by rw[HL.out];exact hnt.out))
    rw[hF.out,if_neg (by decide)] at HS
    go_wp2_with fail
    go_ret
    exact ⟨ret_int HS.out.symm,HW.out.trans (hbr.mono (by have:=HW.out.size;omega))⟩
end
section
open Go Go.RowKit
attribute [local go_sem] over_cell
attribute [local go_sem] Oper.semAt_some
theorem sq_c (r C:Int) (a:Option Addr) (n c:Nat) (cs:List Int) (low:Int) (w:World) (h:IC w a n cs) (hlow : -1≤low) :
  Calls Tryz.prog 103 #[.agg #[.int .i64 r,.int .i64 C,.slice a n c],.int .i64 low] w fun e w'=>e = .returned (.int .i64 (sqE low r C cs))∧Below w.heap.size w w':=by
 have hsm:=h.small
 have hlen:=h.len
 have HO:=Lib.hid (fun W=>isOrder_c r W)
 by_cases hrc:r=C
 ·subst hrc
  by_cases ho:1≤r∧r≤16
  ·obtain ⟨N,rfl⟩:=Int.eq_ofNat_of_zero_le (show 0≤r by omega)
   have hN1:1≤N:=by omega
   have hN2:N≤16:=by omega
   have hmul:wrap64 ((N:Int)*(N:Int))=((N*N:Nat):Int):=by
    rw[← Int.natCast_mul]
    have h1:N*N≤16*16:=Nat.mul_le_mul hN2 hN2
    generalize N*N=q at h1 ⊢
    unfold wrap64
    omega
   have hO:(decide (1≤(N:Int))&&decide ((N:Int)≤16))=true:=by rw[decide_eq_true ho.1,decide_eq_true ho.2];rfl
   rw[hO] at HO
   by_cases hn:n=N*N
   ·have HE:Hid (sqE low (N:Int) (N:Int) cs=symE low N cs):=by
     unfold Hid sqE sqB
     rw[if_pos (by simp only[Bool.and_eq_true,decide_eq_true_eq];exact ⟨⟨⟨trivial,ho.1⟩,ho.2⟩,by rw[hlen,hn,Int.natCast_mul]⟩)]
     rfl
    have HC:=Lib.hid (fun W (hb:Below w.heap.size w W)=>chk_c (N:Int) N a n c cs low W (h.mono hb) hN1 hN2 hlow (by rw[hn];exact Nat.mul_le_mul_left N hN2))
    have hnm:((n:Int) != wrap64 ((N:Int)*(N:Int)))=false:=by rw[hmul,hn];simp
    clear h hlen ho hO hmul hn
    go_enter Tryz.func103,Tryz.ntmps103
    go_wp2_with fail
    have fsz:(w.alloc (.cells #[.int .i64 (N:Int),.int .i64 (N:Int),.slice a n c] 24)).heap.size=w.heap.size+1:=by simp only[World.size_alloc]
    have fB:Below w.heap.size w (w.alloc (.cells #[.int .i64 (N:Int),.int .i64 (N:Int),.slice a n c] 24)):=(Below.refl _ _).alloc (Nat.le_refl _) _
    have fq0:(w.alloc (.cells #[.int .i64 (N:Int),.int .i64 (N:Int),.slice a n c] 24)).heap[w.heap.size]?=some (.cells #[.int .i64 (N:Int),.int .i64 (N:Int),.slice a n c] 24 (0,0)):=by have h:=World.alloc_heap_new w (.cells #[.int .i64 (N:Int),.int .i64 (N:Int),.slice a n c] 24);exact h
    generalize (w.alloc (.cells #[.int .i64 (N:Int),.int .i64 (N:Int),.slice a n c] 24))=W0 at fsz fB fq0 ⊢
    obtain ⟨x0,x1,x2,xl⟩:W0.cell? ⟨w.heap.size,0,none⟩=some (.int .i64 (N:Int))∧W0.cell? ⟨w.heap.size,1,none⟩=some (.int .i64 (N:Int))∧W0.cell? ⟨w.heap.size,2,none⟩=some (.slice a n c)∧w.heap.size<W0.heap.size:=⟨q_cell fq0 0,q_cell fq0 1,q_cell fq0 2,q_lt fq0⟩
    clear fq0 fsz
    go_wp2_with (first|(go_at_call 113;refine (HO.out _).mono ?_;rintro _ w1 ⟨rfl,rfl⟩)|(go_at_call 114;refine (HC.out _ fB).mono ?_;rintro _ w1 ⟨rfl,hb1⟩))
    go_ret
    exact ⟨ret_int HE.out.symm,keep_trans fB hb1⟩
   ·have HE:Hid (sqE low (N:Int) (N:Int) cs=2):=by
     unfold Hid sqE sqB
     rw[if_neg (by simp only[Bool.and_eq_true,decide_eq_true_eq];rintro ⟨_,e⟩;rw[hlen,← Int.natCast_mul] at e;exact hn (Int.ofNat.inj e))]
    have hnm:((n:Int) != wrap64 ((N:Int)*(N:Int)))=true:=by rw[hmul,bne_iff_ne];exact fun e=>hn (Int.ofNat.inj e)
    clear h hlen ho hO hmul hn
    go_enter Tryz.func103,Tryz.ntmps103
    go_wp2_with fail
    have fsz:(w.alloc (.cells #[.int .i64 (N:Int),.int .i64 (N:Int),.slice a n c] 24)).heap.size=w.heap.size+1:=by simp only[World.size_alloc]
    have fB:Below w.heap.size w (w.alloc (.cells #[.int .i64 (N:Int),.int .i64 (N:Int),.slice a n c] 24)):=(Below.refl _ _).alloc (Nat.le_refl _) _
    have fq0:(w.alloc (.cells #[.int .i64 (N:Int),.int .i64 (N:Int),.slice a n c] 24)).heap[w.heap.size]?=some (.cells #[.int .i64 (N:Int),.int .i64 (N:Int),.slice a n c] 24 (0,0)):=by have h:=World.alloc_heap_new w (.cells #[.int .i64 (N:Int),.int .i64 (N:Int),.slice a n c] 24);exact h
    generalize (w.alloc (.cells #[.int .i64 (N:Int),.int .i64 (N:Int),.slice a n c] 24))=W0 at fsz fB fq0 ⊢
    obtain ⟨x0,x1,x2,xl⟩:W0.cell? ⟨w.heap.size,0,none⟩=some (.int .i64 (N:Int))∧W0.cell? ⟨w.heap.size,1,none⟩=some (.int .i64 (N:Int))∧W0.cell? ⟨w.heap.size,2,none⟩=some (.slice a n c)∧w.heap.size<W0.heap.size:=⟨q_cell fq0 0,q_cell fq0 1,q_cell fq0 2,q_lt fq0⟩
    clear fq0 fsz
    go_wp2_with (first|(go_at_call 113;refine (HO.out _).mono ?_;rintro _ w1 ⟨rfl,rfl⟩))
    go_ret
    exact ⟨ret_int HE.out.symm,fB⟩
  ·have HE:Hid (sqE low r r cs=2):=by
    unfold Hid sqE sqB
    rw[if_neg (by simp only[Bool.and_eq_true,decide_eq_true_eq];rintro ⟨⟨⟨_,e1⟩,e2⟩,_⟩;exact ho ⟨e1,e2⟩)]
   have hO:(decide (1≤r)&&decide (r≤16))=false:=by
    rw[Bool.eq_false_iff];intro e;rw[Bool.and_eq_true,decide_eq_true_eq,decide_eq_true_eq] at e;exact ho e
   rw[hO] at HO
   clear h hlen ho hO
   go_enter Tryz.func103,Tryz.ntmps103
   go_wp2_with fail
   have fsz:(w.alloc (.cells #[.int .i64 r,.int .i64 r,.slice a n c] 24)).heap.size=w.heap.size+1:=by simp only[World.size_alloc]
   have fB:Below w.heap.size w (w.alloc (.cells #[.int .i64 r,.int .i64 r,.slice a n c] 24)):=(Below.refl _ _).alloc (Nat.le_refl _) _
   have fq0:(w.alloc (.cells #[.int .i64 r,.int .i64 r,.slice a n c] 24)).heap[w.heap.size]?=some (.cells #[.int .i64 r,.int .i64 r,.slice a n c] 24 (0,0)):=by have h:=World.alloc_heap_new w (.cells #[.int .i64 r,.int .i64 r,.slice a n c] 24);exact h
   generalize (w.alloc (.cells #[.int .i64 r,.int .i64 r,.slice a n c] 24))=W0 at fsz fB fq0 ⊢
   obtain ⟨x0,x1,x2,xl⟩:W0.cell? ⟨w.heap.size,0,none⟩=some (.int .i64 r)∧W0.cell? ⟨w.heap.size,1,none⟩=some (.int .i64 r)∧W0.cell? ⟨w.heap.size,2,none⟩=some (.slice a n c)∧w.heap.size<W0.heap.size:=⟨q_cell fq0 0,q_cell fq0 1,q_cell fq0 2,q_lt fq0⟩
   clear fq0 fsz
   go_wp2_with (first|(go_at_call 113;refine (HO.out _).mono ?_;rintro _ w1 ⟨rfl,rfl⟩))
   go_ret
   exact ⟨ret_int HE.out.symm,fB⟩
 ·have HE:Hid (sqE low r C cs=2):=by
   unfold Hid sqE sqB
   rw[if_neg (by simp only[Bool.and_eq_true,decide_eq_true_eq];rintro ⟨⟨⟨e,_⟩,_⟩,_⟩;exact hrc e)]
  have hne:(r != C)=true:=by simpa using hrc
  clear h hlen hrc
  go_enter Tryz.func103,Tryz.ntmps103
  go_wp2_with fail
  have fsz:(w.alloc (.cells #[.int .i64 r,.int .i64 C,.slice a n c] 24)).heap.size=w.heap.size+1:=by simp only[World.size_alloc]
  have fB:Below w.heap.size w (w.alloc (.cells #[.int .i64 r,.int .i64 C,.slice a n c] 24)):=(Below.refl _ _).alloc (Nat.le_refl _) _
  have fq0:(w.alloc (.cells #[.int .i64 r,.int .i64 C,.slice a n c] 24)).heap[w.heap.size]?=some (.cells #[.int .i64 r,.int .i64 C,.slice a n c] 24 (0,0)):=by have h:=World.alloc_heap_new w (.cells #[.int .i64 r,.int .i64 C,.slice a n c] 24);exact h
  generalize (w.alloc (.cells #[.int .i64 r,.int .i64 C,.slice a n c] 24))=W0 at fsz fB fq0 ⊢
  obtain ⟨x0,x1,x2,xl⟩:W0.cell? ⟨w.heap.size,0,none⟩=some (.int .i64 r)∧W0.cell? ⟨w.heap.size,1,none⟩=some (.int .i64 C)∧W0.cell? ⟨w.heap.size,2,none⟩=some (.slice a n c)∧w.heap.size<W0.heap.size:=⟨q_cell fq0 0,q_cell fq0 1,q_cell fq0 2,q_lt fq0⟩
  clear fq0 fsz
  go_wp2_with fail
  go_ret
  exact ⟨ret_int HE.out.symm,fB⟩
theorem latcheck_c (r C:Int) (a:Option Addr) (n c:Nat) (cs:List Int) (w:World) (h:IC w a n cs) :
  Calls Tryz.prog 58 #[.agg #[.int .i64 r,.int .i64 C,.slice a n c]] w fun e w'=>e = .returned (.int .i64 (sqE 0 r C cs))∧Below w.heap.size w w':=by
 have HC:=Lib.hid (fun W (hb:Below w.heap.size w W)=>sq_c r C a n c cs 0 W (h.mono hb) (by decide))
 clear h
 generalize sqE 0 r C cs=v at HC ⊢
 go_enter Tryz.func58,Tryz.ntmps58
 go_wp2_with fail
 have fsz:(w.alloc (.cells #[.int .i64 r,.int .i64 C,.slice a n c] 24)).heap.size=w.heap.size+1:=by simp only[World.size_alloc]
 have fB:Below w.heap.size w (w.alloc (.cells #[.int .i64 r,.int .i64 C,.slice a n c] 24)):=(Below.refl _ _).alloc (Nat.le_refl _) _
 have fq0:(w.alloc (.cells #[.int .i64 r,.int .i64 C,.slice a n c] 24)).heap[w.heap.size]?=some (.cells #[.int .i64 r,.int .i64 C,.slice a n c] 24 (0,0)):=by have h:=World.alloc_heap_new w (.cells #[.int .i64 r,.int .i64 C,.slice a n c] 24);exact h
 generalize (w.alloc (.cells #[.int .i64 r,.int .i64 C,.slice a n c] 24))=W0 at fsz fB fq0 ⊢
 obtain ⟨x0,x1,x2,xl⟩:W0.cell? ⟨w.heap.size,0,none⟩=some (.int .i64 r)∧W0.cell? ⟨w.heap.size,1,none⟩=some (.int .i64 C)∧W0.cell? ⟨w.heap.size,2,none⟩=some (.slice a n c)∧w.heap.size<W0.heap.size:=⟨q_cell fq0 0,q_cell fq0 1,q_cell fq0 2,q_lt fq0⟩
 clear fq0 fsz
 go_wp2_with (first|(go_at_call 103;refine (HC.out _ fB).mono ?_;rintro _ w1 ⟨rfl,hb1⟩))
 go_ret
 exact ⟨rfl,keep_trans fB hb1⟩
end
section
open Go Go.RowKit
attribute [local go_sem] over_cell
attribute [local go_sem] Oper.semAt_some
def ordE (n:Int):Int:=whenV (!(decide (1≤n)&&decide (n≤16))) 3
theorem corder_c (n:Int) (w:World):Calls Tryz.prog 125 #[.int .i64 n] w fun e w'=>e = .returned (.int .i64 (ordE n))∧w=w':=by
 have HO:=Lib.hid (fun W=>isOrder_c n W)
 have HE:Hid (ordE n=whenV (!(decide (1≤n)&&decide (n≤16))) 3):=rfl
 generalize (decide (1≤n)&&decide (n≤16))=b at HO HE
 go_enter Tryz.func125,Tryz.ntmps125
 go_wp2_with (first|(go_at_call 113;refine (HO.out _).mono ?_;rintro _ w1 ⟨rfl,rfl⟩)|(go_at_call 93;refine (twhen_c _ _ _).mono ?_;rintro _ w2 ⟨rfl,rfl⟩))
 go_ret
 exact ⟨ret_int HE.out.symm,rfl⟩
theorem lat_c (r:Int) (N i j:Nat) (a:Option Addr) (n c:Nat) (cs:List Int) (w:World) (h:IC w a n cs) (hN:N≤256) (hi:i≤256) (hj:j<N) (hk:i*N+j<n) :
  Calls Tryz.prog 116 #[.agg #[.int .i64 r,.int .i64 (N:Int),.slice a n c],.int .i64 (i:Int),.int .i64 (j:Int)] w fun e w'=>e = .returned (.int .i64 (cs[i*N+j]?.getD 0))∧Below w.heap.size w w':=by
 have hq:i*N≤256*256:=Nat.mul_le_mul hi hN
 obtain ⟨q,hq1⟩:∃q,q=i*N:=⟨_,rfl⟩
 rw[← hq1] at hq hk ⊢
 have hmul:wrap64 ((i:Int)*(N:Int))=(q:Int):=by rw[← Int.natCast_mul,← hq1];unfold wrap64;omega
 have hqi:(q:Int)+(j:Int)<(n:Int):=by omega
 obtain ⟨b,off,rfl,hb,hc⟩:=h.2 (q+j) hk
 have hj1:j<256:=by omega
 clear hq1 h
 generalize cs[q+j]?.getD 0=x at hc ⊢
 go_enter Tryz.func116,Tryz.ntmps116
 go_upto_region 1 with fail
 have fsz:(w.alloc (.cells #[.int .i64 r,.int .i64 (N:Int),.slice (some ⟨b,off,none⟩) n c] 24)).heap.size=w.heap.size+1:=by simp only[World.size_alloc]
 have fB:Below w.heap.size w (w.alloc (.cells #[.int .i64 r,.int .i64 (N:Int),.slice (some ⟨b,off,none⟩) n c] 24)):=(Below.refl _ _).alloc (Nat.le_refl _) _
 have fq0:(w.alloc (.cells #[.int .i64 r,.int .i64 (N:Int),.slice (some ⟨b,off,none⟩) n c] 24)).heap[w.heap.size]?=some (.cells #[.int .i64 r,.int .i64 (N:Int),.slice (some ⟨b,off,none⟩) n c] 24 (0,0)):=by have h:=World.alloc_heap_new w (.cells #[.int .i64 r,.int .i64 (N:Int),.slice (some ⟨b,off,none⟩) n c] 24);exact h
 generalize (w.alloc (.cells #[.int .i64 r,.int .i64 (N:Int),.slice (some ⟨b,off,none⟩) n c] 24))=W0 at fsz fB fq0 ⊢
 have x1:W0.cell? ⟨w.heap.size,1,none⟩=some (.int .i64 (N:Int)):=q_cell fq0 1
 have x2:W0.cell? ⟨w.heap.size,2,none⟩=some (.slice (some ⟨b,off,none⟩) n c):=q_cell fq0 2
 have xl:=q_lt fq0
 have hc3:=((bcell fB).1 b (off+(q+j)) hb).trans hc
 have hb3:=Nat.lt_of_lt_of_le hb fB.size
 clear fq0 fsz hc
 go_wp2
 go_ret
 exact ⟨rfl,fB⟩
theorem tmod_up (x:Int) (n:Int):(x.tmod n+n) % n=x % n:=by
 rw[Int.add_emod_right,Int.tmod_def,Int.sub_mul_emod_self_left]
theorem modulo_c (x:Int) (n:Nat) (w:World) (hn:1≤n) (hn2:n≤1000000) :
  Calls Tryz.prog 123 #[.int .i64 x,.int .i64 (n:Int)] w fun e w'=>e = .returned (.int .i64 (x % (n:Int)))∧w=w':=by
 have hne:(n:Int)≠0:=by omega
 have hb:=Int.lt_tmod_of_pos x (show (0:Int)<(n:Int) by omega)
 have hb2:=Int.tmod_lt_of_pos x (show (0:Int)<(n:Int) by omega)
 go_enter Tryz.func123,Tryz.ntmps123
 go_wp2
 go_ret
 exact ⟨ret_int (tmod_up _ _),rfl⟩
end
section
open Go Go.RowKit
theorem run_append_nothing {P:Program} (w:World) (t ty e:TypeId) (i:TypeInfo) (ht:P.underlying t=some (.slice e)) (hi:P.info? e=some i) (b:Option Addr) (n cap c:Nat) (h:n≤cap) :
  (Builtin.append_ #[t,t] ty #[.slice b n cap,.slice none 0 c]).run P w = .ok (.slice b n cap) w:=by
 cases b with
 | none=>simp[Builtin.append_,run_underlying ht,sizeOf,typeInfo,hi,Builtin.lenOf,Builtin.firstCells,h]
 | some a=>simp[Builtin.append_,run_underlying ht,sizeOf,typeInfo,hi,Builtin.lenOf,Builtin.firstCells,h,storeCells]
def SrcOk (w:World) (ad:Option Addr) (m:Nat) (news:List Value):Prop:=(∃p,ad=some p∧∀j u,news[j]?=some u→w.cell? (p.add j)=some u)∨(ad=none∧m=0)
theorem IC.src {w:World} {ad:Option Addr} {m:Nat} {xs:List Int} (h:IC w ad m xs):SrcOk w ad m (xs.map (Value.int .i64)):=by
 cases ad with
 | some p=>exact .inl ⟨p,rfl,h.cells⟩
 | none =>
  refine .inr ⟨rfl,?_⟩
  rcases Nat.eq_zero_or_pos m with e|e
  ·exact e
  ·obtain ⟨_,_,e2,_⟩:=h.2 0 e
   cases e2
theorem wpList_append_any {P:Program} (w:World) {ops:Array Oper} {rest:List Oper} {o:Oper} {a:Act} {Q:Exit→Act→World→Prop} (hgd:o.guard=none) (s x:Operand) (t:TypeId)
  (ho:o.op = .call { callee := .builtin .append,args:=#[s,x],argTypes:=#[t,t] })
  (B:Nat) (e:TypeId) (i:TypeInfo) (z:Value) (bytes:Nat) (ht:P.underlying t=some (.slice e)) (hi:P.info? e=some i) (hz:i.zero=some z)
  (hsize:i.size=1) (hby:i.bytes=bytes) (hzs:z.cells.size=1)
  (v:Value) (n:Nat) (xs:List Value) (hs:a.eval s=v) (hown:w.ownsRow B e 1 v n xs) (hB:B≤w.heap.size)
  (ad:Option Addr) (m c:Nat) (news:List Value) (hx:a.eval x = .slice ad m c) (hl:news.length=m) (hnews:SrcOk w ad m news) (h1:∀u∈news,u.oneCell'=true)
  (h63:n+m≤maxLen) (hbytes:(n+m)*bytes≤140737488355328)
  (h:∀v' w',w'.ownsRow B e 1 v' (n+m) (xs++news)→Stays (fun k=>v.ownBlock=some k) w w'→(∀k,v'.ownBlock=some k→v.ownBlock=some k∨w.heap.size≤k)→wpList P ops Q rest (a.put o.dst v') w'):wpList P ops Q (o :: rest) a w:=by
 rcases hnews with ⟨p,rfl,hn⟩|⟨rfl,rfl⟩
 ·refine wpList_append_own2 w hgd s x t ho e i z 1 bytes ht hi hz hsize hby hzs (by decide) v n xs hs (owns_base hown (Nat.zero_le _)) p m c news hx (by omega) hn h1 h63 hbytes ?_
  intro v' w' ho' hg hk
  refine h v' w' ?_ (Stays.grown hg (fun k e=>e)) hk
  refine ⟨ho'.1,ho'.2.imp id ?_⟩
  rintro ⟨g,cap,cur,rfl,_,r⟩
  refine ⟨g,cap,cur,rfl,?_,r⟩
  rcases hk g rfl with e|e
  ·exact (hown.lt g e).1
  ·omega
 ·have hn:news=[]:=List.eq_nil_of_length_eq_zero hl
  subst hn
  obtain ⟨b,cap,hv,hcap⟩:∃b cap,v = .slice b n cap∧n≤cap:=by
   rcases hown.2 with ⟨h2,h3⟩|⟨g,cap,cur,h2,_,_,h3,_⟩
   ·exact ⟨none,0,by rw[h2,h3],by omega⟩
   ·exact ⟨_,cap,h2,h3⟩
  refine wpList_plain hgd fun _ hK=>?_
  have hr:=run_append_nothing (P:=P) w t o.type e i ht hi b n cap c hcap
  unfold Oper.wp execOp
  simp only[ho,resolve,invoke,builtin,Sem.run_bind,Sem.run_pure,Result.andThen_ok,List.map_toArray,List.map_cons,List.map_nil,hs,hv,hx,hr]
  refine hK _ _ ?_
  rw[← hv]
  exact h v w (by simpa using hown) (Stays.refl _ _) (fun k e => .inl e)
theorem IC.stays {S:Nat→Prop} {W W':World} {a:Option Addr} {n:Nat} {xs:List Int} (h:IC W a n xs) (hs:Stays S W W') (hn:∀b o,0<n→a=some ⟨b,o,none⟩→¬S b):IC W' a n xs :=
 ⟨h.1,fun k hk=>by
  obtain ⟨b,off,e,hlt,hc⟩:=h.2 k hk
  exact ⟨b,off,e,Nat.lt_of_lt_of_le hlt hs.size,(hs.cell hlt (hn b off (by omega) e)).trans hc⟩⟩
def noB:Nat→Prop:=fun _=>False
theorem RowsI.below {W W':World} {L:Nat} {v:Value} {pre:List (Value × List Int)} (h:RowsI W noB L v pre) (hb:Below W.heap.size W W'):RowsI W' noB L v pre :=
 ⟨owns_keep h.1 (fun k _ hl=>hb.block k hl),h.2.1,fun x hx=>⟨owns_keep (h.2.2 x hx).1 (fun k _ hl=>hb.block k hl),(h.2.2 x hx).2⟩⟩
def RV (w:World) (vs:List Value) (xss:List (List Int)):Prop:=vs.length=xss.length∧∀k,k<vs.length→∃a n c,vs[k]?=some (.slice a n c)∧IC w a n (xss[k]?.getD [])∧n≤c
theorem RV.one {w:World} {vs:List Value} {xss:List (List Int)} (h:RV w vs xss):∀u∈vs,u.oneCell'=true:=by
 intro u hu
 obtain ⟨k,hk,e⟩:=List.getElem_of_mem hu
 obtain ⟨a,n,c,e2,_⟩:=h.2 k hk
 rw[List.getElem?_eq_getElem hk,e] at e2
 cases e2
 rfl
theorem rc_vals {w:World} {a:Option Addr} {n:Nat} {xss:List (List Int)} (h:RC w a n xss):∃vs,SrcOk w a n vs∧RV w vs xss∧vs.length=n:=by
 cases n with
 | zero =>
  have hx:xss=[]:=List.eq_nil_of_length_eq_zero h.len
  subst hx
  refine ⟨[],?_,⟨rfl,fun k hk=>absurd hk (by simp)⟩,rfl⟩
  cases a with
  | none=>exact .inr ⟨rfl,rfl⟩
  | some p=>exact .inl ⟨p,rfl,fun j u hu=>by simp at hu⟩
 | succ n =>
  obtain ⟨b,off,_,_,_,rfl,_⟩:=h.2 0 (by omega)
  refine ⟨(List.range (n+1)).map fun k=>(w.cell? ⟨b,off+k,none⟩).getD undef,.inl ⟨_,rfl,fun j u hu=>?_⟩,⟨by simp[h.len],fun k hk=>?_⟩,by simp⟩
  ·have hj:j<n+1:=by
    have:=(List.getElem?_eq_some_iff.1 hu).1
    simpa using this
   obtain ⟨b2,off2,a',n',c',e,_,hc,_⟩:=h.2 j hj
   cases e
   rw[List.getElem?_map,List.getElem?_range hj,Option.map_some] at hu
   have hadd:((⟨b,off,none⟩:Addr).add j)=⟨b,off+j,none⟩:=by unfold Addr.add;split <;> simp_all
   rw[hadd,hc]
   rw[hc] at hu
   exact hu
  ·have hj:k<n+1:=by simpa using hk
   obtain ⟨b2,off2,a',n',c',e,_,hc,hi,hcap⟩:=h.2 k hj
   cases e
   refine ⟨a',n',c',?_,hi,hcap⟩
   rw[List.getElem?_map,List.getElem?_range hj,Option.map_some,hc]
   rfl
theorem rc_of_rv {w:World} {B n c m:Nat} {a:Option Addr} {e:TypeId} {vs:List Value} {xss:List (List Int)} (h:w.ownsRow B e 1 (.slice a n c) m vs) (hv:RV w vs xss) (hn:m≤17592186044416):RC w a n xss∧n≤c:=by
 have hl:=h.1
 rcases h.2 with ⟨e2,e3⟩|⟨g,cap,cur,e2,_,_,e5,_⟩
 ·simp only[Value.slice.injEq] at e2
  obtain ⟨rfl,rfl,rfl⟩:=e2
  exact ⟨⟨⟨by rw[← hv.1];omega,by omega⟩,fun k hk=>absurd hk (by omega)⟩,Nat.le_refl _⟩
 ·have e9:=e2
  simp only[Value.slice.injEq] at e9
  obtain ⟨rfl,rfl,rfl⟩:=e9
  refine ⟨⟨⟨by rw[← hv.1];omega,hn⟩,fun k hk=>?_⟩,e5⟩
  obtain ⟨g2,cap2,x,hv2,hx,hc,_,hg,_⟩:=owns_free (owns_base h (Nat.zero_le _)) k hk
  cases hv2
  obtain ⟨a',n',c',e6,hi,hcap⟩:=hv.2 k (by omega)
  rw[hx] at e6
  cases e6
  exact ⟨g,0,a',n',c',rfl,hg,by rw[Nat.zero_add,hc],hi,hcap⟩
theorem cell_lt {w:World} {p:Addr} {v:Value} (h:w.cell? p=some v):p.block<w.heap.size:=by
 apply Classical.byContradiction
 intro hn
 have e:w.heap[p.block]?=none:=Array.getElem?_eq_none (by omega)
 unfold World.cell? at h
 rw[e] at h
 cases h
theorem SrcOk.mono {w w':World} {a:Option Addr} {m:Nat} {news:List Value} (h:SrcOk w a m news) (hb:Below w.heap.size w w'):SrcOk w' a m news:=by
 rcases h with ⟨p,rfl,h⟩|h
 ·exact .inl ⟨p,rfl,fun j u hj=>by
   have h1:=h j u hj
   rw[← h1]
   exact hb.cell (cell_lt h1)⟩
 ·exact .inr h
end
end Go.Proofs.YtmfpdakaeagdpaaGreat
