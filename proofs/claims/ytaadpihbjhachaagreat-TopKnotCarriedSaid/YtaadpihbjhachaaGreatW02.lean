/- Texts C2 to C5 of this proof, in one file. -/
import Derived.Test.YtaadpihbjhachaaGreatW01
import Derived.Laws.BitsAllLaws
namespace Go.Proofs.YtaadpihbjhachaaGreat
set_option maxRecDepth 100000
set_option maxHeartbeats 16000000
section
open Go Go.RowKit
attribute [local go_sem] over_cell
theorem lineBad_lo {cells:Int} {l:List Int} {k:Nat} (h:l[k]?.getD 0<0):lineBad cells l k=10:=by unfold lineBad;rw[if_pos (.inl h)]
theorem lineBad_hi {cells:Int} {l:List Int} {k:Nat} (h:cells≤l[k]?.getD 0):lineBad cells l k=10:=by unfold lineBad;rw[if_pos (.inr h)]
theorem lineBad_ord {cells:Int} {l:List Int} {k:Nat} (h0:¬l[k]?.getD 0<0) (h1:¬cells≤l[k]?.getD 0) (hk:0<k) (h:l[k]?.getD 0≤l[k - 1]?.getD 0):lineBad cells l k=11:=by
 unfold lineBad;rw[if_neg (by omega),if_pos ⟨hk,h⟩]
theorem lineBad_ok {cells:Int} {l:List Int} {k:Nat} (h0:¬l[k]?.getD 0<0) (h1:¬cells≤l[k]?.getD 0) (h:k=0∨¬l[k]?.getD 0≤l[k - 1]?.getD 0):lineBad cells l k=0:=by
 unfold lineBad;rw[if_neg (by omega),if_neg (by omega)]
theorem upto_snoc {f:Nat→Int} {k:Nat} (h:∀j,j<k→f j=0) (hk:f k=0):∀j,j<k+1→f j=0:=by
 intro j hj
 by_cases e:j=k
 ·rw[e];exact hk
 ·exact h j (by omega)
theorem sys2_c (a:Option Addr) (n c:Nat) (ls:List (List Int)) (cells:Int) (w:World) (h:RC w a n ls) (hcap:n≤c) :
  Calls Tryz.prog 61 #[.agg #[.int .i64 cells,.slice a n c]] w fun e w'=>e = .returned (.int .i64 (sysErr cells ls))∧Below w.heap.size w w':=by
 have hm:=h.small
 by_cases h1:cells<1
 ·have hf:Hid (sysErr cells ls=3):=by unfold Hid sysErr;rw[if_pos (.inl h1)]
  have hd:decide (cells<1)=true:=by simpa using h1
  go_enter Tryz.func61,Tryz.ntmps61
  go_wp2
  go_ret
  exact ⟨ret_int hf.out.symm,(Below.refl _ _).alloc (Nat.le_refl _) _⟩
 by_cases h2:256<cells
 ·have hf:Hid (sysErr cells ls=3):=by unfold Hid sysErr;rw[if_pos (.inr h2)]
  have hd1:decide (cells<1)=false:=by simpa using h1
  have hd:decide (256<cells)=true:=by simpa using h2
  go_enter Tryz.func61,Tryz.ntmps61
  go_wp2
  go_ret
  exact ⟨ret_int hf.out.symm,(Below.refl _ _).alloc (Nat.le_refl _) _⟩
 have hd1:decide (cells<1)=false:=by simpa using h1
 have hd2:decide (256<cells)=false:=by simpa using h2
 by_cases h3:128<n
 ·have hf:Hid (sysErr cells ls=5):=by unfold Hid sysErr;rw[if_neg (by omega),if_pos (by rw[h.len];exact h3)]
  go_enter Tryz.func61,Tryz.ntmps61
  go_wp2
  go_ret
  exact ⟨ret_int hf.out.symm,(Below.refl _ _).alloc (Nat.le_refl _) _⟩
 have hf:Hid (sysErr cells ls=errs (lineErr cells ls) n):=by unfold Hid sysErr;rw[if_neg (by omega),if_neg (by rw[h.len];exact h3),h.len]
 go_enter Tryz.func61,Tryz.ntmps61
 go_wp2
 have hsz:w.heap.size<(w.alloc (.cells #[.int .i64 cells,.slice a n c] 24)).heap.size:=by simp
 have hx0:=box_cells w #[.int .i64 cells,.slice a n c] 24 0
 have hx1:=box_cells w #[.int .i64 cells,.slice a n c] 24 1
 have hB:Below w.heap.size w (w.alloc (.cells #[.int .i64 cells,.slice a n c] 24)):=(Below.refl _ _).alloc (Nat.le_refl _) _
 generalize (w.alloc (.cells #[.int .i64 cells,.slice a n c] 24))=W0 at hsz hx0 hx1 hB ⊢
 have h0:=h.mono hB
 have hx0':W0.cell? ⟨w.heap.size,0,none⟩=some (.int .i64 cells):=by simpa using hx0
 have hx1':W0.cell? ⟨w.heap.size,1,none⟩=some (.slice a n c):=by simpa using hx1
 have HX0:=Lib.hid hx0'
 have HX1:=Lib.hid hx1'
 clear hx0 hx1 hx0' hx1'
 go_loopw [3,4,5] (fun i _ _ wr=>∃k:Nat,k≤n∧i = .int .i64 k∧Hid (∀j,j<k→lineErr cells ls j=0)∧Below W0.heap.size W0 wr) (fun i _ _ _=>n - (intOf i).toNat)
 case atStart=>exact ⟨0,by omega,rfl,fun j hj=>absurd hj (by omega),Below.refl _ _⟩
 case round =>
  obtain ⟨k,hk,rfl,hn,hbr⟩:=hrel
  obtain ⟨wo,rfl⟩:∃wo:World,wo=wr:=⟨_,rfl⟩
  have x0:wo.cell? ⟨w.heap.size,0,none⟩=some (.int .i64 cells):=((bcell hbr).1 _ _ hsz).trans HX0.out
  have x1:wo.cell? ⟨w.heap.size,1,none⟩=some (.slice a n c):=((bcell hbr).1 _ _ hsz).trans HX1.out
  by_cases hlt:k<n
  ·obtain ⟨b,off,a1,n1,c1,rfl,hb,hc,hi,hic1⟩:=(h0.mono hbr).2 k hlt
   have hm1:=hi.small
   by_cases hz:n1=0
   ·subst hz
    have hv:Hid (lineErr cells ls k=12):=by unfold Hid lineErr;rw[if_pos hi.len]
    go_wp2
    go_ret
    exact ⟨ret_int (by rw[hf.out,errs_found hn.out hlt (by rw[hv.out];omega),hv.out]),hB.trans (hbr.mono (by omega))⟩
   ·have hz':((n1:Int)==0)=false:=by simpa using hz
    have hv:Hid (errs (lineBad cells (ls[k]?.getD [])) n1≠0→lineErr cells ls k=errs (lineBad cells (ls[k]?.getD [])) n1):=by
     intro he
     unfold lineErr;rw[if_neg (by rw[hi.len];exact hz),hi.len,if_pos he]
    go_wp2
    go_loopw [5] (fun i2 wr=>∃k2:Nat,k2≤n1∧i2 = .int .i64 k2∧Hid (∀j,j<k2→lineBad cells (ls[k]?.getD []) j=0)∧Below wo.heap.size wo wr) (fun i2 _=>n1 - (intOf i2).toNat)
    case atStart=>exact ⟨0,by omega,rfl,fun j hj=>absurd hj (by omega),Below.refl _ _⟩
    case round =>
     obtain ⟨k2,hk2,rfl,hn2,hbr2⟩:=hrel
     have hs2:=hbr2.size
     have hsr:w.heap.size<wr.heap.size:=by have:=hbr.size;omega
     have y0:wr.cell? ⟨w.heap.size,0,none⟩=some (.int .i64 cells):=((bcell hbr2).1 _ _ (by have:=hbr.size;omega)).trans x0
     have y1:wr.cell? ⟨w.heap.size,1,none⟩=some (.slice (some ⟨b,off,none⟩) n c):=((bcell hbr2).1 _ _ (by have:=hbr.size;omega)).trans x1
     by_cases hlt2:k2<n1
     ·obtain ⟨b2,off2,rfl,hb2,hc2⟩:=(hi.mono hbr2).2 k2 hlt2
      have hli:(k2:Int)<(n1:Int):=by omega
      have hl0:(0:Int)≤(k2:Int):=by omega
      have hlx:(k:Int)<(n:Int):=by omega
      have hlx0:(0:Int)≤(k:Int):=by omega
      by_cases g1:(ls[k]?.getD [])[k2]?.getD 0<0
      ·have e1:decide ((ls[k]?.getD [])[k2]?.getD 0<0)=true:=by simpa using g1
       have hE:=Lib.hid (lineBad_lo (cells:=cells) g1)
       go_wp2
       refine wp_region_S (fun w'=>∃u,w'=over (wr) u) [] [(0,0),(0,1),(0,2),(0,3),(0,4),(0,5),(0,6),(0,7),(0,8),(0,9),(0,10),(0,11),(0,12),(0,13)] (by kernel_rfl) (by kernel_rfl) (by exact ⟨_,below_over (by repeat (first|assumption|exact Below.refl _ _|refine keep_drew ?_|refine keep_alloc ?_ _|refine keep_trans ?_ (by assumption)))⟩) ?_
       dsimp only[pickOps,nthOp]
       repeat (first|(refine wpS_skip rfl (fun K hK=>?_);go_big_quiet_op;refine hK _ ?_;clear hK K)|(refine wpS_quiet rfl rfl (fun K hK=>?_);go_big_quiet_op;refine hK _ ?_;clear hK K))
       refine wpS_end ?_
       go_wp2
       go_ret
       have he:=errs_found hn2.out hlt2 (by rw[hE.out];omega)
       rw[hE.out] at he
       exact ⟨ret_int (by rw[hf.out,errs_found hn.out hlt (by rw[hv.out (by rw[he];omega),he];omega),hv.out (by rw[he];omega),he]),(hB.trans (hbr.mono (by omega))).trans ((hbr2.mono (by have:=hbr.size;omega)).drew)⟩
      have f1:decide ((ls[k]?.getD [])[k2]?.getD 0<0)=false:=by simpa using g1
      by_cases g2:cells≤(ls[k]?.getD [])[k2]?.getD 0
      ·have e2:decide (cells≤(ls[k]?.getD [])[k2]?.getD 0)=true:=by simpa using g2
       have hE:=Lib.hid (lineBad_hi (cells:=cells) g2)
       go_wp2
       refine wp_region_S (fun w'=>∃u,w'=over (wr) u) [] [(0,0),(0,1),(0,2),(0,3),(0,4),(0,5),(0,6),(0,7),(0,8),(0,9),(0,10),(0,11),(0,12),(0,13)] (by kernel_rfl) (by kernel_rfl) (by exact ⟨_,below_over (by repeat (first|assumption|exact Below.refl _ _|refine keep_drew ?_|refine keep_alloc ?_ _|refine keep_trans ?_ (by assumption)))⟩) ?_
       dsimp only[pickOps,nthOp]
       repeat (first|(refine wpS_skip rfl (fun K hK=>?_);go_big_quiet_op;refine hK _ ?_;clear hK K)|(refine wpS_quiet rfl rfl (fun K hK=>?_);go_big_quiet_op;refine hK _ ?_;clear hK K))
       refine wpS_end ?_
       go_wp2
       go_ret
       have he:=errs_found hn2.out hlt2 (by rw[hE.out];omega)
       rw[hE.out] at he
       exact ⟨ret_int (by rw[hf.out,errs_found hn.out hlt (by rw[hv.out (by rw[he];omega),he];omega),hv.out (by rw[he];omega),he]),(hB.trans (hbr.mono (by omega))).trans ((hbr2.mono (by have:=hbr.size;omega)).drew)⟩
      have f2:decide (cells≤(ls[k]?.getD [])[k2]?.getD 0)=false:=by simpa using g2
      by_cases g3:k2=0
      ·have hE:=Lib.hid (lineBad_ok (cells:=cells) g1 g2 (.inl g3))
       have e3:decide (0<(k2:Int))=false:=by simp;omega
       have e3':decide (0<k2)=false:=by simp;omega
       clear g3
       go_wp2
       refine wp_region_S (fun w'=>∃u,w'=over (wr) u) [] [(0,0),(0,1),(0,2),(0,3),(0,4),(0,5),(0,6),(0,7),(0,8),(0,9),(0,10),(0,11),(0,12),(0,13)] (by kernel_rfl) (by kernel_rfl) (by exact ⟨_,below_over (by repeat (first|assumption|exact Below.refl _ _|refine keep_drew ?_|refine keep_alloc ?_ _|refine keep_trans ?_ (by assumption)))⟩) ?_
       dsimp only[pickOps,nthOp]
       repeat (first|(refine wpS_skip rfl (fun K hK=>?_);go_big_quiet_op;refine hK _ ?_;clear hK K)|(refine wpS_quiet rfl rfl (fun K hK=>?_);go_big_quiet_op;refine hK _ ?_;clear hK K))
       refine wpS_end ?_
       go_wp2
       refine wp_region_S (fun w'=>∃u,w'=over (wr) u) [] [(0,0),(0,1),(0,2),(0,3),(0,4),(0,5),(0,6),(0,7),(0,8),(0,9),(0,10),(0,11),(0,12),(0,13)] (by kernel_rfl) (by kernel_rfl) (by exact ⟨_,below_over (by repeat (first|assumption|exact Below.refl _ _|refine keep_drew ?_|refine keep_alloc ?_ _|refine keep_trans ?_ (by assumption)))⟩) ?_
       dsimp only[pickOps,nthOp]
       repeat (first|(refine wpS_skip rfl (fun K hK=>?_);go_big_quiet_op;refine hK _ ?_;clear hK K)|(refine wpS_quiet rfl rfl (fun K hK=>?_);go_big_quiet_op;refine hK _ ?_;clear hK K))
       refine wpS_end ?_
       go_wp2
       go_roundw
       case rel=>exact ⟨k2+1,by omega,by go_num,upto_snoc hn2.out hE.out,hbr2.drew.drew⟩
       case measure=>simp[intOf];omega
      have e3:decide (0<(k2:Int))=true:=by simp;omega
      have e3':decide (0<k2)=true:=by simp;omega
      have gp:(0:Int)<(k2:Int):=by omega
      have gn:(0:Int)≤(k2:Int) - 1:=by omega
      have gl:(k2:Int) - 1<(n1:Int):=by omega
      have hcp:wr.cell? ⟨b2,off2+((k2:Int) - 1).toNat,none⟩=some (.int .i64 ((ls[k]?.getD [])[k2 - 1]?.getD 0)):=by
       obtain ⟨b3,off3,e,_,hc3⟩:=(hi.mono hbr2).2 (k2 - 1) (by omega)
       simp only[Option.some.injEq,Addr.mk.injEq,and_true] at e
       obtain ⟨rfl,rfl⟩:=e
       rw[show ((k2:Int) - 1).toNat=k2 - 1 from by omega]
       exact hc3
      have hcp':wr.cell? ⟨b2,off2+(k2 - 1),none⟩=some (.int .i64 ((ls[k]?.getD [])[k2 - 1]?.getD 0)):=by
       rw[show ((k2:Int) - 1).toNat=k2 - 1 from by omega] at hcp
       exact hcp
      by_cases g4:(ls[k]?.getD [])[k2]?.getD 0≤(ls[k]?.getD [])[k2 - 1]?.getD 0
      ·have e4:decide ((ls[k]?.getD [])[k2]?.getD 0≤(ls[k]?.getD [])[k2 - 1]?.getD 0)=true:=by simpa using g4
       have hE:=Lib.hid (lineBad_ord (cells:=cells) g1 g2 (by omega) g4)
       go_wp2
       refine wp_region_S (fun w'=>∃u,w'=over (wr) u) [] [(0,0),(0,1),(0,2),(0,3),(0,4),(0,5),(0,6),(0,7),(0,8),(0,9),(0,10),(0,11),(0,12),(0,13)] (by kernel_rfl) (by kernel_rfl) (by exact ⟨_,below_over (by repeat (first|assumption|exact Below.refl _ _|refine keep_drew ?_|refine keep_alloc ?_ _|refine keep_trans ?_ (by assumption)))⟩) ?_
       dsimp only[pickOps,nthOp]
       repeat (first|(refine wpS_skip rfl (fun K hK=>?_);go_big_quiet_op;refine hK _ ?_;clear hK K)|(refine wpS_quiet rfl rfl (fun K hK=>?_);go_big_quiet_op;refine hK _ ?_;clear hK K))
       refine wpS_end ?_
       go_wp2
       refine wp_region_S (fun w'=>∃u,w'=over (wr) u) [] [(0,0),(0,1),(0,2),(0,3),(0,4),(0,5),(0,6),(0,7),(0,8),(0,9),(0,10),(0,11),(0,12),(0,13)] (by kernel_rfl) (by kernel_rfl) (by exact ⟨_,below_over (by repeat (first|assumption|exact Below.refl _ _|refine keep_drew ?_|refine keep_alloc ?_ _|refine keep_trans ?_ (by assumption)))⟩) ?_
       dsimp only[pickOps,nthOp]
       repeat (first|(refine wpS_skip rfl (fun K hK=>?_);go_big_quiet_op;refine hK _ ?_;clear hK K)|(refine wpS_quiet rfl rfl (fun K hK=>?_);go_big_quiet_op;refine hK _ ?_;clear hK K))
       refine wpS_end ?_
       go_wp2
       go_ret
       have he:=errs_found hn2.out hlt2 (by rw[hE.out];omega)
       rw[hE.out] at he
       exact ⟨ret_int (by rw[hf.out,errs_found hn.out hlt (by rw[hv.out (by rw[he];omega),he];omega),hv.out (by rw[he];omega),he]),(hB.trans (hbr.mono (by omega))).trans ((hbr2.mono (by have:=hbr.size;omega)).drew.drew)⟩
      ·have e4:decide ((ls[k]?.getD [])[k2]?.getD 0≤(ls[k]?.getD [])[k2 - 1]?.getD 0)=false:=by simpa using g4
       have hE:=Lib.hid (lineBad_ok (cells:=cells) g1 g2 (.inr g4))
       go_wp2
       refine wp_region_S (fun w'=>∃u,w'=over (wr) u) [] [(0,0),(0,1),(0,2),(0,3),(0,4),(0,5),(0,6),(0,7),(0,8),(0,9),(0,10),(0,11),(0,12),(0,13)] (by kernel_rfl) (by kernel_rfl) (by exact ⟨_,below_over (by repeat (first|assumption|exact Below.refl _ _|refine keep_drew ?_|refine keep_alloc ?_ _|refine keep_trans ?_ (by assumption)))⟩) ?_
       dsimp only[pickOps,nthOp]
       repeat (first|(refine wpS_skip rfl (fun K hK=>?_);go_big_quiet_op;refine hK _ ?_;clear hK K)|(refine wpS_quiet rfl rfl (fun K hK=>?_);go_big_quiet_op;refine hK _ ?_;clear hK K))
       refine wpS_end ?_
       go_wp2
       refine wp_region_S (fun w'=>∃u,w'=over (wr) u) [] [(0,0),(0,1),(0,2),(0,3),(0,4),(0,5),(0,6),(0,7),(0,8),(0,9),(0,10),(0,11),(0,12),(0,13)] (by kernel_rfl) (by kernel_rfl) (by exact ⟨_,below_over (by repeat (first|assumption|exact Below.refl _ _|refine keep_drew ?_|refine keep_alloc ?_ _|refine keep_trans ?_ (by assumption)))⟩) ?_
       dsimp only[pickOps,nthOp]
       repeat (first|(refine wpS_skip rfl (fun K hK=>?_);go_big_quiet_op;refine hK _ ?_;clear hK K)|(refine wpS_quiet rfl rfl (fun K hK=>?_);go_big_quiet_op;refine hK _ ?_;clear hK K))
       refine wpS_end ?_
       go_wp2
       go_roundw
       case rel=>exact ⟨k2+1,by omega,by go_num,upto_snoc hn2.out hE.out,hbr2.drew.drew⟩
       case measure=>simp[intOf];omega
     ·have e:k2=n1:=by omega
      subst e
      have he:=Lib.hid (errs_none hn2.out)
      have hlx:(k:Int)<(n:Int):=by omega
      have hlx0:(0:Int)≤(k:Int):=by omega
      have hkc:k≤c:=by omega
      have hrc:RC wr (some ⟨b,off,none⟩) k (ls.take k):=((h0.mono hbr).mono hbr2).take k hk
      have hic:=hi.mono hbr2
      have hw:Hid (lineErr cells ls k=if hasLineB (ls.take k) (ls[k]?.getD []) then 9 else 0):=by
       unfold Hid lineErr;rw[if_neg (by rw[hi.len];exact hz),hi.len,if_neg (by rw[he.out];omega)]
      go_wp2_with (go_at_call 29;refine (hasLine_c _ _ _ _ _ _ _ _ _ hrc hic).mono ?_;rintro e w1 ⟨rfl,hb1⟩)
      ·have hh:hasLineB (ls.take k) (ls[k]?.getD [])=true:=by assumption
       go_ret
       rw[hh,if_pos rfl] at hw
       exact ⟨ret_int (by rw[hf.out,errs_found hn.out hlt (by rw[hw.out];omega),hw.out]),((hB.trans (hbr.mono (by omega))).trans (hbr2.mono (by have:=hbr.size;omega))).trans (hb1.mono (by have:=hbr.size;omega))⟩
      ·have hh:hasLineB (ls.take k) (ls[k]?.getD [])=false:=by assumption
       rw[hh,if_neg (by simp)] at hw
       go_roundw
       case rel=>exact ⟨k+1,by omega,by go_num,upto_snoc hn.out hw.out,(hbr.trans (hbr2.mono hbr.size)).trans (hb1.mono (by have:=hbr.size;omega))⟩
       case measure=>simp[intOf];omega
  ·go_wp2
   go_ret
   have e:k=n:=by omega
   subst e
   exact ⟨ret_int (by rw[hf.out,errs_none hn.out]),hB.trans (hbr.mono (by omega))⟩
end
section
open Go Go.RowKit
attribute [local go_sem] over_cell
theorem givenBad_lo {cells:Int} {g:List Int} {k:Nat} (h:g[k]?.getD 0<0):givenBad cells g k=3:=by unfold givenBad;rw[if_pos (.inl h)]
theorem givenBad_hi {cells:Int} {g:List Int} {k:Nat} (h:cells<g[k]?.getD 0):givenBad cells g k=3:=by unfold givenBad;rw[if_pos (.inr h)]
theorem givenBad_tw {cells:Int} {g:List Int} {k:Nat} (h1:¬cells<g[k]?.getD 0) (hk:0<g[k]?.getD 0) (h:hasB (g.take k) (g[k]?.getD 0)=true):givenBad cells g k=9:=by
 unfold givenBad;rw[if_neg (by omega),if_pos ⟨hk,h⟩]
theorem givenBad_ok {cells:Int} {g:List Int} {k:Nat} (h0:¬g[k]?.getD 0<0) (h1:¬cells<g[k]?.getD 0) (h:¬0<g[k]?.getD 0∨hasB (g.take k) (g[k]?.getD 0)=false):givenBad cells g k=0:=by
 unfold givenBad;rw[if_neg (by omega),if_neg]
 rintro ⟨a,b⟩
 rcases h with h|h
 ·exact h a
 ·rw[h] at b;simp at b
theorem rtask_c (a:Option Addr) (n c:Nat) (ls:List (List Int)) (cells sum:Int) (a':Option Addr) (n' c':Nat) (g:List Int) (w:World) (h:RC w a n ls) (hcap:n≤c) (h':IC w a' n' g) (hcap':n'≤c') :
  Calls Tryz.prog 13 #[.agg #[.int .i64 cells,.slice a n c,.int .i64 sum,.slice a' n' c']] w fun e w'=>e = .returned (.int .i64 (taskErr cells ls sum g))∧Below w.heap.size w w':=by
 have hm:=h.small
 have hm':=h'.small
 by_cases h1:sysErr cells ls=0
 case neg =>
  have hf:Hid (taskErr cells ls sum g=sysErr cells ls):=by unfold Hid taskErr;rw[if_pos h1]
  have hd:(sysErr cells ls != 0)=true:=by simpa using h1
  have h0:=Lib.hid h1;clear h1
  go_enter Tryz.func13,Tryz.ntmps13
  go_wp2_with fail
  have hsz:w.heap.size<(w.alloc (.cells #[.int .i64 cells,.slice a n c,.int .i64 sum,.slice a' n' c'] 30)).heap.size:=by simp
  have hB:Below w.heap.size w (w.alloc (.cells #[.int .i64 cells,.slice a n c,.int .i64 sum,.slice a' n' c'] 30)):=(Below.refl _ _).alloc (Nat.le_refl _) _
  have x0:(w.alloc (.cells #[.int .i64 cells,.slice a n c,.int .i64 sum,.slice a' n' c'] 30)).cell? ⟨w.heap.size,0,none⟩=some (.int .i64 cells):=(box_cells w #[.int .i64 cells,.slice a n c,.int .i64 sum,.slice a' n' c'] 30 0).trans rfl
  have x1:(w.alloc (.cells #[.int .i64 cells,.slice a n c,.int .i64 sum,.slice a' n' c'] 30)).cell? ⟨w.heap.size,1,none⟩=some (.slice a n c):=(box_cells w #[.int .i64 cells,.slice a n c,.int .i64 sum,.slice a' n' c'] 30 1).trans rfl
  have x2:(w.alloc (.cells #[.int .i64 cells,.slice a n c,.int .i64 sum,.slice a' n' c'] 30)).cell? ⟨w.heap.size,2,none⟩=some (.int .i64 sum):=(box_cells w #[.int .i64 cells,.slice a n c,.int .i64 sum,.slice a' n' c'] 30 2).trans rfl
  have x3:(w.alloc (.cells #[.int .i64 cells,.slice a n c,.int .i64 sum,.slice a' n' c'] 30)).cell? ⟨w.heap.size,3,none⟩=some (.slice a' n' c'):=(box_cells w #[.int .i64 cells,.slice a n c,.int .i64 sum,.slice a' n' c'] 30 3).trans rfl
  generalize (w.alloc (.cells #[.int .i64 cells,.slice a n c,.int .i64 sum,.slice a' n' c'] 30))=W0 at hsz hB x0 x1 x2 x3 ⊢
  refine (sys2_c _ _ _ _ _ _ (h.mono hB) hcap).mono ?_
  rintro e w1 ⟨rfl,hb1⟩
  go_wp2
  go_ret
  exact ⟨ret_int hf.out.symm,hB.trans (hb1.mono (by omega))⟩
 have hd0:(sysErr cells ls != 0)=false:=by simpa using h1
 have H1:=Lib.hid h1;clear h1
 by_cases h2:sum<1
 ·have hf:Hid (taskErr cells ls sum g=3):=by unfold Hid taskErr;rw[if_neg (by rw[H1.out];omega),if_pos (.inl h2)]
  have hd:decide (sum<1)=true:=by simpa using h2
  go_enter Tryz.func13,Tryz.ntmps13
  go_wp2_with fail
  have hsz:w.heap.size<(w.alloc (.cells #[.int .i64 cells,.slice a n c,.int .i64 sum,.slice a' n' c'] 30)).heap.size:=by simp
  have hB:Below w.heap.size w (w.alloc (.cells #[.int .i64 cells,.slice a n c,.int .i64 sum,.slice a' n' c'] 30)):=(Below.refl _ _).alloc (Nat.le_refl _) _
  have x0:(w.alloc (.cells #[.int .i64 cells,.slice a n c,.int .i64 sum,.slice a' n' c'] 30)).cell? ⟨w.heap.size,0,none⟩=some (.int .i64 cells):=(box_cells w #[.int .i64 cells,.slice a n c,.int .i64 sum,.slice a' n' c'] 30 0).trans rfl
  have x1:(w.alloc (.cells #[.int .i64 cells,.slice a n c,.int .i64 sum,.slice a' n' c'] 30)).cell? ⟨w.heap.size,1,none⟩=some (.slice a n c):=(box_cells w #[.int .i64 cells,.slice a n c,.int .i64 sum,.slice a' n' c'] 30 1).trans rfl
  have x2:(w.alloc (.cells #[.int .i64 cells,.slice a n c,.int .i64 sum,.slice a' n' c'] 30)).cell? ⟨w.heap.size,2,none⟩=some (.int .i64 sum):=(box_cells w #[.int .i64 cells,.slice a n c,.int .i64 sum,.slice a' n' c'] 30 2).trans rfl
  have x3:(w.alloc (.cells #[.int .i64 cells,.slice a n c,.int .i64 sum,.slice a' n' c'] 30)).cell? ⟨w.heap.size,3,none⟩=some (.slice a' n' c'):=(box_cells w #[.int .i64 cells,.slice a n c,.int .i64 sum,.slice a' n' c'] 30 3).trans rfl
  generalize (w.alloc (.cells #[.int .i64 cells,.slice a n c,.int .i64 sum,.slice a' n' c'] 30))=W0 at hsz hB x0 x1 x2 x3 ⊢
  refine (sys2_c _ _ _ _ _ _ (h.mono hB) hcap).mono ?_
  rintro e w1 ⟨rfl,hb1⟩
  have y2:=((bcell hb1).1 _ _ hsz).trans x2
  go_wp2
  go_ret
  exact ⟨ret_int hf.out.symm,hB.trans (hb1.mono (by omega))⟩
 have e2:decide (sum<1)=false:=by simpa using h2
 by_cases h3:999999999<sum
 ·have hf:Hid (taskErr cells ls sum g=3):=by unfold Hid taskErr;rw[if_neg (by rw[H1.out];omega),if_pos (.inr h3)]
  have hd:decide (999999999<sum)=true:=by simpa using h3
  go_enter Tryz.func13,Tryz.ntmps13
  go_wp2_with fail
  have hsz:w.heap.size<(w.alloc (.cells #[.int .i64 cells,.slice a n c,.int .i64 sum,.slice a' n' c'] 30)).heap.size:=by simp
  have hB:Below w.heap.size w (w.alloc (.cells #[.int .i64 cells,.slice a n c,.int .i64 sum,.slice a' n' c'] 30)):=(Below.refl _ _).alloc (Nat.le_refl _) _
  have x0:(w.alloc (.cells #[.int .i64 cells,.slice a n c,.int .i64 sum,.slice a' n' c'] 30)).cell? ⟨w.heap.size,0,none⟩=some (.int .i64 cells):=(box_cells w #[.int .i64 cells,.slice a n c,.int .i64 sum,.slice a' n' c'] 30 0).trans rfl
  have x1:(w.alloc (.cells #[.int .i64 cells,.slice a n c,.int .i64 sum,.slice a' n' c'] 30)).cell? ⟨w.heap.size,1,none⟩=some (.slice a n c):=(box_cells w #[.int .i64 cells,.slice a n c,.int .i64 sum,.slice a' n' c'] 30 1).trans rfl
  have x2:(w.alloc (.cells #[.int .i64 cells,.slice a n c,.int .i64 sum,.slice a' n' c'] 30)).cell? ⟨w.heap.size,2,none⟩=some (.int .i64 sum):=(box_cells w #[.int .i64 cells,.slice a n c,.int .i64 sum,.slice a' n' c'] 30 2).trans rfl
  have x3:(w.alloc (.cells #[.int .i64 cells,.slice a n c,.int .i64 sum,.slice a' n' c'] 30)).cell? ⟨w.heap.size,3,none⟩=some (.slice a' n' c'):=(box_cells w #[.int .i64 cells,.slice a n c,.int .i64 sum,.slice a' n' c'] 30 3).trans rfl
  generalize (w.alloc (.cells #[.int .i64 cells,.slice a n c,.int .i64 sum,.slice a' n' c'] 30))=W0 at hsz hB x0 x1 x2 x3 ⊢
  refine (sys2_c _ _ _ _ _ _ (h.mono hB) hcap).mono ?_
  rintro e w1 ⟨rfl,hb1⟩
  have y2:=((bcell hb1).1 _ _ hsz).trans x2
  go_wp2
  go_ret
  exact ⟨ret_int hf.out.symm,hB.trans (hb1.mono (by omega))⟩
 have e3:decide (999999999<sum)=false:=by simpa using h3
 by_cases h4:(n':Int)=cells
 case neg =>
  have hf:Hid (taskErr cells ls sum g=2):=by unfold Hid taskErr;rw[if_neg (by rw[H1.out];omega),if_neg (by omega),h'.len,if_pos h4]
  have hd:((n':Int) != cells)=true:=by simpa using h4
  have h0:=Lib.hid h4;clear h4
  go_enter Tryz.func13,Tryz.ntmps13
  go_wp2_with fail
  have hsz:w.heap.size<(w.alloc (.cells #[.int .i64 cells,.slice a n c,.int .i64 sum,.slice a' n' c'] 30)).heap.size:=by simp
  have hB:Below w.heap.size w (w.alloc (.cells #[.int .i64 cells,.slice a n c,.int .i64 sum,.slice a' n' c'] 30)):=(Below.refl _ _).alloc (Nat.le_refl _) _
  have x0:(w.alloc (.cells #[.int .i64 cells,.slice a n c,.int .i64 sum,.slice a' n' c'] 30)).cell? ⟨w.heap.size,0,none⟩=some (.int .i64 cells):=(box_cells w #[.int .i64 cells,.slice a n c,.int .i64 sum,.slice a' n' c'] 30 0).trans rfl
  have x1:(w.alloc (.cells #[.int .i64 cells,.slice a n c,.int .i64 sum,.slice a' n' c'] 30)).cell? ⟨w.heap.size,1,none⟩=some (.slice a n c):=(box_cells w #[.int .i64 cells,.slice a n c,.int .i64 sum,.slice a' n' c'] 30 1).trans rfl
  have x2:(w.alloc (.cells #[.int .i64 cells,.slice a n c,.int .i64 sum,.slice a' n' c'] 30)).cell? ⟨w.heap.size,2,none⟩=some (.int .i64 sum):=(box_cells w #[.int .i64 cells,.slice a n c,.int .i64 sum,.slice a' n' c'] 30 2).trans rfl
  have x3:(w.alloc (.cells #[.int .i64 cells,.slice a n c,.int .i64 sum,.slice a' n' c'] 30)).cell? ⟨w.heap.size,3,none⟩=some (.slice a' n' c'):=(box_cells w #[.int .i64 cells,.slice a n c,.int .i64 sum,.slice a' n' c'] 30 3).trans rfl
  generalize (w.alloc (.cells #[.int .i64 cells,.slice a n c,.int .i64 sum,.slice a' n' c'] 30))=W0 at hsz hB x0 x1 x2 x3 ⊢
  refine (sys2_c _ _ _ _ _ _ (h.mono hB) hcap).mono ?_
  rintro e w1 ⟨rfl,hb1⟩
  have y2:=((bcell hb1).1 _ _ hsz).trans x2
  have y3:=((bcell hb1).1 _ _ hsz).trans x3
  have y0:=((bcell hb1).1 _ _ hsz).trans x0
  go_wp2
  go_ret
  exact ⟨ret_int hf.out.symm,hB.trans (hb1.mono (by omega))⟩
 have e4:((n':Int) != cells)=false:=by simpa using h4
 have hf:Hid (taskErr cells ls sum g=errs (givenBad cells g) n'):=by unfold Hid taskErr;rw[if_neg (by rw[H1.out];omega),if_neg (by omega),h'.len,if_neg (by omega)]
 have H4:=Lib.hid h4;clear h4
 go_enter Tryz.func13,Tryz.ntmps13
 go_wp2_with fail
 have hsz:w.heap.size<(w.alloc (.cells #[.int .i64 cells,.slice a n c,.int .i64 sum,.slice a' n' c'] 30)).heap.size:=by simp
 have hB:Below w.heap.size w (w.alloc (.cells #[.int .i64 cells,.slice a n c,.int .i64 sum,.slice a' n' c'] 30)):=(Below.refl _ _).alloc (Nat.le_refl _) _
 have x0:(w.alloc (.cells #[.int .i64 cells,.slice a n c,.int .i64 sum,.slice a' n' c'] 30)).cell? ⟨w.heap.size,0,none⟩=some (.int .i64 cells):=(box_cells w #[.int .i64 cells,.slice a n c,.int .i64 sum,.slice a' n' c'] 30 0).trans rfl
 have x1:(w.alloc (.cells #[.int .i64 cells,.slice a n c,.int .i64 sum,.slice a' n' c'] 30)).cell? ⟨w.heap.size,1,none⟩=some (.slice a n c):=(box_cells w #[.int .i64 cells,.slice a n c,.int .i64 sum,.slice a' n' c'] 30 1).trans rfl
 have x2:(w.alloc (.cells #[.int .i64 cells,.slice a n c,.int .i64 sum,.slice a' n' c'] 30)).cell? ⟨w.heap.size,2,none⟩=some (.int .i64 sum):=(box_cells w #[.int .i64 cells,.slice a n c,.int .i64 sum,.slice a' n' c'] 30 2).trans rfl
 have x3:(w.alloc (.cells #[.int .i64 cells,.slice a n c,.int .i64 sum,.slice a' n' c'] 30)).cell? ⟨w.heap.size,3,none⟩=some (.slice a' n' c'):=(box_cells w #[.int .i64 cells,.slice a n c,.int .i64 sum,.slice a' n' c'] 30 3).trans rfl
 generalize (w.alloc (.cells #[.int .i64 cells,.slice a n c,.int .i64 sum,.slice a' n' c'] 30))=W0 at hsz hB x0 x1 x2 x3 ⊢
 refine (sys2_c _ _ _ _ _ _ (h.mono hB) hcap).mono ?_
 rintro e w1 ⟨rfl,hb1⟩
 have y2:=((bcell hb1).1 _ _ hsz).trans x2
 have y3:=((bcell hb1).1 _ _ hsz).trans x3
 have y0:=((bcell hb1).1 _ _ hsz).trans x0
 have hi1:=(h'.mono hB).mono hb1
 have hB1:Below w.heap.size w w1:=hB.trans (hb1.mono (by omega))
 have hsz1:w.heap.size<w1.heap.size:=by have:=hb1.size;omega
 go_wp2
 have Y0:=Lib.hid y0
 have Y3:=Lib.hid y3
 clear x0 x1 x2 x3 y0 y2 y3
 go_loopw [4] (fun i wr=>∃k:Nat,k≤n'∧i = .int .i64 k∧Hid (∀j,j<k→givenBad cells g j=0)∧Below w1.heap.size w1 wr) (fun i _=>n' - (intOf i).toNat)
 case atStart=>exact ⟨0,by omega,rfl,fun j hj=>absurd hj (by omega),Below.refl _ _⟩
 case round =>
  obtain ⟨k,hk,rfl,hn,hbr⟩:=hrel
  have hszr:w.heap.size<wr.heap.size:=by have:=hbr.size;omega
  have z0:=((bcell hbr).1 _ _ hsz1).trans Y0.out
  have z3:=((bcell hbr).1 _ _ hsz1).trans Y3.out
  by_cases hlt:k<n'
  ·obtain ⟨b,off,rfl,hb,hc⟩:=(hi1.mono hbr).2 k hlt
   have hli:(k:Int)<(n':Int):=by omega
   have hl0:(0:Int)≤(k:Int):=by omega
   have hkc:k≤c':=by omega
   by_cases g1:g[k]?.getD 0<0
   ·have f1:decide (g[k]?.getD 0<0)=true:=by simpa using g1
    have hE:=Lib.hid (givenBad_lo (cells:=cells) g1)
    go_wp2
    refine wp_region_S (fun w'=>∃u,w'=over (wr) u) [] [(0,0),(0,1),(0,2),(0,3),(0,4),(0,5),(0,6),(0,7),(0,8),(0,9),(0,10),(0,11),(0,12),(0,13),(0,14),(0,15),(0,16)] (by kernel_rfl) (by kernel_rfl) (by exact ⟨_,below_over (by repeat (first|assumption|exact Below.refl _ _|refine keep_drew ?_|refine keep_alloc ?_ _|refine keep_trans ?_ (by assumption)))⟩) ?_
    dsimp only[pickOps,nthOp]
    repeat (first|(refine wpS_skip rfl (fun K hK=>?_);go_big_quiet_op;refine hK _ ?_;clear hK K)|(refine wpS_quiet rfl rfl (fun K hK=>?_);go_big_quiet_op;refine hK _ ?_;clear hK K))
    refine wpS_end ?_
    go_wp2
    go_ret
    exact ⟨ret_int (by rw[hf.out,errs_found hn.out hlt (by rw[hE.out];omega),hE.out]),(hB1.trans (hbr.mono (by omega))).drew⟩
   have f1:decide (g[k]?.getD 0<0)=false:=by simpa using g1
   by_cases g2:cells<g[k]?.getD 0
   ·have f2:decide (cells<g[k]?.getD 0)=true:=by simpa using g2
    have hE:=Lib.hid (givenBad_hi (cells:=cells) g2)
    go_wp2
    refine wp_region_S (fun w'=>∃u,w'=over (wr) u) [] [(0,0),(0,1),(0,2),(0,3),(0,4),(0,5),(0,6),(0,7),(0,8),(0,9),(0,10),(0,11),(0,12),(0,13),(0,14),(0,15),(0,16)] (by kernel_rfl) (by kernel_rfl) (by exact ⟨_,below_over (by repeat (first|assumption|exact Below.refl _ _|refine keep_drew ?_|refine keep_alloc ?_ _|refine keep_trans ?_ (by assumption)))⟩) ?_
    dsimp only[pickOps,nthOp]
    repeat (first|(refine wpS_skip rfl (fun K hK=>?_);go_big_quiet_op;refine hK _ ?_;clear hK K)|(refine wpS_quiet rfl rfl (fun K hK=>?_);go_big_quiet_op;refine hK _ ?_;clear hK K))
    refine wpS_end ?_
    go_wp2
    go_ret
    exact ⟨ret_int (by rw[hf.out,errs_found hn.out hlt (by rw[hE.out];omega),hE.out]),(hB1.trans (hbr.mono (by omega))).drew⟩
   have f2:decide (cells<g[k]?.getD 0)=false:=by simpa using g2
   by_cases g3:0<g[k]?.getD 0
   ·have f3:decide (0<g[k]?.getD 0)=true:=by simpa using g3
    have hit:=(hi1.mono hbr).take k hk
    go_wp2
    refine wp_region_S (fun w'=>∃u,w'=over (wr) u) [] [(0,0),(0,1),(0,2),(0,3),(0,4),(0,5),(0,6),(0,7),(0,8),(0,9),(0,10),(0,11),(0,12),(0,13),(0,14),(0,15),(0,16)] (by kernel_rfl) (by kernel_rfl) (by exact ⟨_,below_over (by repeat (first|assumption|exact Below.refl _ _|refine keep_drew ?_|refine keep_alloc ?_ _|refine keep_trans ?_ (by assumption)))⟩) ?_
    dsimp only[pickOps,nthOp]
    repeat (first|(refine wpS_skip rfl (fun K hK=>?_);go_big_quiet_op;refine hK _ ?_;clear hK K)|(refine wpS_quiet rfl rfl (fun K hK=>?_);go_big_quiet_op;refine hK _ ?_;clear hK K))
    refine wpS_end ?_
    go_wp2
    refine wp_region_S (fun w'=>∃u,w'=over (wr) u) [] [(0,0),(0,1),(0,2),(0,3),(0,4),(0,5),(0,6),(0,7),(0,8),(0,9),(0,10),(0,11),(0,12),(0,13),(0,14),(0,15),(1,16),(0,17)] (by kernel_rfl) (by kernel_rfl) (by exact ⟨_,below_over (by repeat (first|assumption|exact Below.refl _ _|refine keep_drew ?_|refine keep_alloc ?_ _|refine keep_trans ?_ (by assumption)))⟩) ?_
    dsimp only[pickOps,nthOp]
    repeat (first|(refine wpS_skip rfl (fun K hK=>?_);go_big_quiet_op;refine hK _ ?_;clear hK K)|(refine wpS_quiet rfl rfl (fun K hK=>?_);go_big_quiet_op;refine hK _ ?_;clear hK K)|(refine wpS_loud ?_;go_wp2_with (go_at_call 62;refine (has_c _ _ _ _ _ _ (hit.mono (keep_drew (keep_drew (Below.refl _ _))))).mono ?_;rintro e w1 ⟨rfl,rfl⟩);refine ⟨?_,?_⟩;focus (exact ⟨_,below_over (by repeat (first|assumption|exact Below.refl _ _|refine keep_drew ?_|refine keep_alloc ?_ _|refine keep_trans ?_ (by assumption)))⟩)))
    refine wpS_end ?_
    go_wp2
    ·have hh:hasB (g.take k) (g[k]?.getD 0)=true:=by assumption
     have hE:=Lib.hid (givenBad_tw (cells:=cells) (by omega) (by omega) hh)
     go_ret
     exact ⟨ret_int (by rw[hf.out,errs_found hn.out hlt (by rw[hE.out];omega),hE.out]),(hB1.trans (hbr.mono (by omega))).drew.drew⟩
    ·have hh:hasB (g.take k) (g[k]?.getD 0)=false:=by assumption
     have hE:=Lib.hid (givenBad_ok (cells:=cells) (by omega) (by omega) (.inr hh))
     go_roundw
     case rel=>exact ⟨k+1,by omega,by go_num,upto_snoc hn.out hE.out,hbr.drew.drew⟩
     case measure=>simp[intOf];omega
   ·have f3:decide (0<g[k]?.getD 0)=false:=by simpa using g3
    have hE:=Lib.hid (givenBad_ok (cells:=cells) g1 g2 (.inl g3))
    go_wp2
    refine wp_region_S (fun w'=>∃u,w'=over (wr) u) [] [(0,0),(0,1),(0,2),(0,3),(0,4),(0,5),(0,6),(0,7),(0,8),(0,9),(0,10),(0,11),(0,12),(0,13),(0,14),(0,15),(0,16)] (by kernel_rfl) (by kernel_rfl) (by exact ⟨_,below_over (by repeat (first|assumption|exact Below.refl _ _|refine keep_drew ?_|refine keep_alloc ?_ _|refine keep_trans ?_ (by assumption)))⟩) ?_
    dsimp only[pickOps,nthOp]
    repeat (first|(refine wpS_skip rfl (fun K hK=>?_);go_big_quiet_op;refine hK _ ?_;clear hK K)|(refine wpS_quiet rfl rfl (fun K hK=>?_);go_big_quiet_op;refine hK _ ?_;clear hK K))
    refine wpS_end ?_
    go_wp2
    refine wp_region_S (fun w'=>∃u,w'=over (wr) u) [] [(0,0),(0,1),(0,2),(0,3),(0,4),(0,5),(0,6),(0,7),(0,8),(0,9),(0,10),(0,11),(0,12),(0,13),(0,14),(0,15),(1,16),(0,17)] (by kernel_rfl) (by kernel_rfl) (by exact ⟨_,below_over (by repeat (first|assumption|exact Below.refl _ _|refine keep_drew ?_|refine keep_alloc ?_ _|refine keep_trans ?_ (by assumption)))⟩) ?_
    dsimp only[pickOps,nthOp]
    repeat (first|(refine wpS_skip rfl (fun K hK=>?_);go_big_quiet_op;refine hK _ ?_;clear hK K)|(refine wpS_quiet rfl rfl (fun K hK=>?_);go_big_quiet_op;refine hK _ ?_;clear hK K)|(refine wpS_loud ?_;go_wp2;refine ⟨?_,?_⟩;focus (exact ⟨_,below_over (by repeat (first|assumption|exact Below.refl _ _|refine keep_drew ?_|refine keep_alloc ?_ _|refine keep_trans ?_ (by assumption)))⟩)))
    refine wpS_end ?_
    go_wp2
    go_roundw
    case rel=>exact ⟨k+1,by omega,by go_num,upto_snoc hn.out hE.out,hbr.drew.drew⟩
    case measure=>simp[intOf];omega
  ·go_wp2
   go_ret
   have e:k=n':=by omega
   subst e
   exact ⟨ret_int (by rw[hf.out,errs_none hn.out]),hB1.trans (hbr.mono (by omega))⟩
end
section
open Go Go.RowKit
attribute [local go_sem] over_cell
theorem infoInt:(Tryz.prog.info? 3).map (fun i=>(i.zero,i.size,i.bytes))=some (some (.int .i64 0),1,8):=by kernel_rfl
theorem owns_base {w:World} {base base':Nat} {e:TypeId} {size:Nat} {v:Value} {n:Nat} {xs:List Value} (h:w.ownsRow base e size v n xs) (hb:base'≤base):w.ownsRow base' e size v n xs :=
 ⟨h.1,h.2.imp id fun ⟨g,cap,cur,a,b,r⟩=>⟨g,cap,cur,a,Nat.le_trans hb b,r⟩⟩
theorem IC.of_owns {w:World} {base:Nat} {a:Option Addr} {n c:Nat} {xs:List Int} {e:TypeId} (h:w.ownsRow base e 1 (.slice a n c) xs.length (xs.map (Value.int .i64))) (hs:xs.length≤17592186044416):IC w a n xs∧n≤c:=by
 obtain ⟨h1,h2⟩:=h
 rcases h2 with ⟨h2,h3⟩|⟨g,cap,cur,hv,hg,hh,hnc,hcm,hsz,htk⟩
 ·simp only[Value.slice.injEq] at h2
  obtain ⟨rfl,rfl,rfl⟩:=h2
  exact ⟨⟨⟨h3,by omega⟩,fun k hk=>absurd hk (by omega)⟩,Nat.le_refl _⟩
 ·simp only[Value.slice.injEq] at hv
  obtain ⟨rfl,rfl,rfl⟩:=hv
  refine ⟨⟨⟨rfl,hs⟩,fun k hk=>⟨g,0,rfl,(Array.getElem?_eq_some_iff.1 hh).1,?_⟩⟩,hnc⟩
  rw[cell_of_row w g (0+k) cur e (0,0) hh]
  have h4:(cur.toList.take (xs.length*1))[k]?=(xs.map (Value.int .i64))[k]?:=by rw[htk]
  rw[List.getElem?_take,if_pos (by omega),List.getElem?_map] at h4
  rw[Nat.zero_add]
  rw[List.getElem?_eq_getElem hk] at h4 ⊢
  simpa using h4
theorem ropen_c (v1:Value) (cells sum:Int) (a':Option Addr) (n' c':Nat) (g:List Int) (w:World) (h':IC w a' n' g) :
  Calls Tryz.prog 23 #[.agg #[.int .i64 cells,v1,.int .i64 sum,.slice a' n' c']] w fun e w'=>∃v,e = .returned v∧w'.ownsRow w.heap.size 3 1 v (openL g).length ((openL g).map (Value.int .i64))∧Below w.heap.size w w':=by
 have hm':=h'.small
 obtain ⟨i0,hi,hz0,hz1,hz2⟩:=info_parts infoInt
 go_enter Tryz.func23,Tryz.ntmps23
 go_wp2
 have hsz:w.heap.size<(w.alloc (.cells #[.int .i64 cells,v1,.int .i64 sum,.slice a' n' c'] 30)).heap.size:=by simp
 have hB:Below w.heap.size w (w.alloc (.cells #[.int .i64 cells,v1,.int .i64 sum,.slice a' n' c'] 30)):=(Below.refl _ _).alloc (Nat.le_refl _) _
 have x0:(w.alloc (.cells #[.int .i64 cells,v1,.int .i64 sum,.slice a' n' c'] 30)).cell? ⟨w.heap.size,0,none⟩=some (.int .i64 cells):=(box_cells w #[.int .i64 cells,v1,.int .i64 sum,.slice a' n' c'] 30 0).trans rfl
 have x1:(w.alloc (.cells #[.int .i64 cells,v1,.int .i64 sum,.slice a' n' c'] 30)).cell? ⟨w.heap.size,1,none⟩=some (v1):=(box_cells w #[.int .i64 cells,v1,.int .i64 sum,.slice a' n' c'] 30 1).trans rfl
 have x2:(w.alloc (.cells #[.int .i64 cells,v1,.int .i64 sum,.slice a' n' c'] 30)).cell? ⟨w.heap.size,2,none⟩=some (.int .i64 sum):=(box_cells w #[.int .i64 cells,v1,.int .i64 sum,.slice a' n' c'] 30 2).trans rfl
 have x3:(w.alloc (.cells #[.int .i64 cells,v1,.int .i64 sum,.slice a' n' c'] 30)).cell? ⟨w.heap.size,3,none⟩=some (.slice a' n' c'):=(box_cells w #[.int .i64 cells,v1,.int .i64 sum,.slice a' n' c'] 30 3).trans rfl
 generalize (w.alloc (.cells #[.int .i64 cells,v1,.int .i64 sum,.slice a' n' c'] 30))=W0 at hsz hB x0 x1 x2 x3 ⊢
 have h0:=h'.mono hB
 have X3:=Lib.hid x3
 clear x0 x1 x2 x3
 go_loopw [3,4] (fun v i wr=>∃k:Nat,k≤n'∧i = .int .i64 k∧wr.ownsRow W0.heap.size 3 1 v (openTo g k).length ((openTo g k).map (Value.int .i64))∧Below W0.heap.size W0 wr) (fun _ i _=>n' - (intOf i).toNat)
 case atStart=>exact ⟨0,by omega,rfl,World.ownsRow_nil _ _ _ _,Below.refl _ _⟩
 case round =>
  obtain ⟨k,hk,rfl,hown,hbr⟩:=hrel
  have z3:=((bcell hbr).1 _ _ hsz).trans X3.out
  by_cases hlt:k<n'
  ·obtain ⟨b,off,rfl,hb,hc⟩:=(h0.mono hbr).2 k hlt
   have hlen:=openTo_len g k
   go_wp2_with (at_builtin;refine wpList_append_own _ rfl _ _ 25 rfl W0.heap.size 3 i0 (.int .i64 0) 1 8 Tryz.underlying25 hi hz0 hz1 hz2 rfl (by decide) _ _ _ rfl (hown.alloc _) ⟨wr.heap.size,0,none⟩ 1 1 [.int .i64 k] rfl rfl (cell_one_new _ _ _) (by simp[Value.oneCell']) (by unfold maxLen;omega) (by omega) (by have:=hbr.size;simp;omega) ?_)
   ·intro v' w1 hown' hgrow _
    have he:(g[k]?.getD 0==0)=true:=by assumption
    have hb1:Below W0.heap.size W0 w1:=(hbr.alloc hbr.size _).grown hgrow (by simp;have:=hbr.size;omega) (fun j e=>(hown.lt j e).1)
    have hown2:w1.ownsRow W0.heap.size 3 1 v' (openTo g (k+1)).length ((openTo g (k+1)).map (Value.int .i64)):=by
     rw[openTo_hit he];simpa using hown'
    clear hown' hgrow hown
    go_wp2
    go_roundw
    case rel=>exact ⟨k+1,by omega,by go_num,hown2,hb1⟩
    case measure=>simp[intOf];omega
   ·have he:(g[k]?.getD 0==0)=false:=by assumption
    go_roundw
    case rel=>exact ⟨k+1,by omega,by go_num,by rw[openTo_miss he];exact hown,hbr⟩
    case measure=>simp[intOf];omega
  ·have e:k=n':=by omega
   subst e
   go_wp2
   go_ret
   refine ⟨_,rfl,?_,hB.trans (hbr.mono (by omega))⟩
   rw[openL,h'.len]
   exact owns_base hown (by omega)
end
section
open Go Go.RowKit
attribute [local go_sem] over_cell
def word (M q:Nat):Nat:=M / 2 ^ (64*q) % 18446744073709551616
theorem word_lt (M q:Nat):word M q<18446744073709551616:=Nat.mod_lt _ (by decide)
theorem testBit_word (M q r:Nat) (hr:r<64):(word M q).testBit r=M.testBit (64*q+r):=by
 unfold word
 rw[show (18446744073709551616:Nat)=2 ^ 64 from by decide,Nat.testBit_mod_two_pow,Nat.testBit_div_two_pow]
 simp[hr,Nat.add_comm]
theorem word_or (M q q' r:Nat) (hr:r<64):word (M ||| 2 ^ (64*q+r)) q'=if q'=q then word M q' ||| 2 ^ r else word M q':=by
 apply Nat.eq_of_testBit_eq
 intro i
 by_cases hi:i<64
 ·rw[testBit_word _ _ _ hi,Nat.testBit_or,Nat.testBit_two_pow]
  by_cases e:q'=q
  ·subst e
   rw[if_pos rfl,Nat.testBit_or,testBit_word _ _ _ hi,Nat.testBit_two_pow]
   congr 1
   by_cases e2:r=i
   ·simp[e2]
   ·simp[e2]
  ·rw[if_neg e,testBit_word _ _ _ hi]
   have:¬64*q+r=64*q'+i:=by omega
   simp[this]
 ·have h1:∀n:Nat,n<18446744073709551616→n.testBit i=false:=fun n hn=>Nat.testBit_lt_two_pow (Nat.lt_of_lt_of_le hn (by rw[show (18446744073709551616:Nat)=2 ^ 64 from by decide];exact Nat.pow_le_pow_right (by decide) (by omega)))
  rw[h1 _ (word_lt _ _)]
  split
  ·rw[Nat.testBit_or,h1 _ (word_lt _ _),Nat.testBit_two_pow]
   have:¬r=i:=by omega
   simp[this]
  ·rw[h1 _ (word_lt _ _)]
def clearBit (M k:Nat):Nat:=if M.testBit k then M ^^^ 2 ^ k else M
theorem testBit_clear (M k i:Nat):(clearBit M k).testBit i=(M.testBit i&&decide (i≠k)):=by
 unfold clearBit
 split
 ·rename_i h
  rw[Nat.testBit_xor,Nat.testBit_two_pow]
  by_cases ei:k=i
  ·subst ei;simp[h]
  ·have:¬i=k:=fun e=>ei e.symm
   simp[ei,this]
 ·rename_i h
  by_cases ei:i=k
  ·subst ei;simpa using h
  ·simp[ei]
theorem word_clear (M q q' r:Nat) (hr:r<64):word (clearBit M (64*q+r)) q'=if q'=q then word M q' &&& (18446744073709551615 - 2 ^ r) else word M q':=by
 apply Nat.eq_of_testBit_eq
 intro i
 have hmask:∀i,i<64→(18446744073709551615 - 2 ^ r).testBit i=decide (i≠r):=by
  intro i hi
  have e64:(2:Nat) ^ 64=18446744073709551616:=by decide
  rw[show 18446744073709551615 - 2 ^ r=2 ^ 64 - (2 ^ r+1) from by omega]
  rw[Nat.testBit_two_pow_sub_succ (Nat.pow_lt_pow_right (by decide) hr),Nat.testBit_two_pow]
  by_cases e:r=i
  ·subst e;simp
  ·have:¬i=r:=fun h=>e h.symm
   simp[hi,e,this]
 by_cases hi:i<64
 ·rw[testBit_word _ _ _ hi,testBit_clear]
  by_cases e:q'=q
  ·subst e
   rw[if_pos rfl,Nat.testBit_and,testBit_word _ _ _ hi,hmask i hi]
   congr 1
   simp
  ·rw[if_neg e,testBit_word _ _ _ hi]
   have:64*q'+i≠64*q+r:=by omega
   simp[this]
 ·have h1:∀n:Nat,n<18446744073709551616→n.testBit i=false:=fun n hn=>Nat.testBit_lt_two_pow (Nat.lt_of_lt_of_le hn (by rw[show (18446744073709551616:Nat)=2 ^ 64 from by decide];exact Nat.pow_le_pow_right (by decide) (by omega)))
  rw[h1 _ (word_lt _ _)]
  split
  ·rw[Nat.testBit_and,h1 _ (word_lt _ _)];simp
  ·rw[h1 _ (word_lt _ _)]
end
end Go.Proofs.YtaadpihbjhachaaGreat
