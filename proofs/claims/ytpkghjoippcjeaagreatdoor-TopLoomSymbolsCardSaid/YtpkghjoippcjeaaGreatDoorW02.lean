/- Texts C9 to C20 of this proof, in one file. -/
import Derived.Test.YtpkghjoippcjeaaGreatDoorW01
import Derived.Lib.SliceRun
import Derived.OneCell
namespace Go.Proofs.YtpkghjoippcjeaaGreatDoor
set_option maxRecDepth 100000
set_option maxHeartbeats 16000000
section
open Go Go.RowKit
attribute [local go_sem] over_cell
def outB (lo hi x:Int):Bool:=decide (x<lo)||decide (hi<x)
theorem from1_c (x lo hi:Int) (b1 b2:Nat) (w:World) (h1:w.cell? ⟨b1,0,none⟩=some (.int .i64 lo)) (h2:w.cell? ⟨b2,0,none⟩=some (.int .i64 hi)) :
  Calls Tryz.prog 47 #[.int .i64 x,.pointer (some ⟨b1,0,none⟩),.pointer (some ⟨b2,0,none⟩)] w fun e w'=>e = .returned (.bool (outB lo hi x))∧w=w':=by
 by_cases hx:x<lo
 ·have hd:decide (x<lo)=true:=by simpa using hx
  have hE:Hid (outB lo hi x=true):=by simp[Hid,outB,hx]
  go_enter Tryz.func47,Tryz.ntmps47
  go_wp2
  go_ret
  exact ⟨ret_bool hE.out.symm,rfl⟩
 ·have hd:decide (x<lo)=false:=by simpa using hx
  have hE:Hid (outB lo hi x=decide (hi<x)):=by simp[Hid,outB,hx]
  go_enter Tryz.func47,Tryz.ntmps47
  go_wp2
  go_ret
  exact ⟨ret_bool hE.out.symm,rfl⟩
theorem from1_fn:∀(args:Array Value) (w:World),Sem.run Tryz.prog (callFunc 47 args) w = .ok (.enter 47 args) w:=by
 intro args w;kernel_rfl
theorem from_c (a:Option Addr) (n c:Nat) (xs:List Int) (lo hi:Int) (w:World) (h:IC w a n xs) :
  Calls Tryz.prog 31 #[.int .i64 lo,.int .i64 hi,.slice a n c] w fun e w'=>e = .returned (.int .i64 (whenV (anyP (fun k=>outB lo hi (xs[k]?.getD 0)) n) 3))∧Below w.heap.size w w':=by
 have hB2:Below w.heap.size w ((w.alloc (.cells #[.int .i64 lo] 3)).alloc (.cells #[.int .i64 hi] 3)):=keep_alloc (keep_alloc (Below.refl _ _) _) _
 have hc1:((w.alloc (.cells #[.int .i64 lo] 3)).alloc (.cells #[.int .i64 hi] 3)).cell? ⟨w.heap.size,0,none⟩=some (.int .i64 lo):=by
  rw[((bcell (W:=w.alloc (.cells #[.int .i64 lo] 3)) (keep_alloc (Below.refl _ _) _)).1 _ _ (by simp)),box_cells];rfl
 have hc2:((w.alloc (.cells #[.int .i64 lo] 3)).alloc (.cells #[.int .i64 hi] 3)).cell? ⟨w.heap.size+1,0,none⟩=some (.int .i64 hi):=by
  have:=box_cells (w.alloc (.cells #[.int .i64 lo] 3)) #[.int .i64 hi] 3 0
  rw[World.size_alloc] at this
  exact this.trans rfl
 have hs2:((w.alloc (.cells #[.int .i64 lo] 3)).alloc (.cells #[.int .i64 hi] 3)).heap.size=w.heap.size+2:=by simp
 have HI:=Lib.hid (containsFuncI_c a n c xs 47 #[.pointer (some ⟨w.heap.size,0,none⟩),.pointer (some ⟨w.heap.size+1,0,none⟩)] (fun k=>outB lo hi (xs[k]?.getD 0)) _ (h.mono hB2) from1_fn
  (fun k _ w' hb=>(from1_c _ lo hi _ _ w' (((bcell hb).1 _ _ (by omega)).trans hc1) (((bcell hb).1 _ _ (by omega)).trans hc2)).mono (fun e w'' ⟨he,hw⟩=>⟨he,hw▸Below.refl _ _⟩)))
 have HB:=Lib.hid hB2
 clear hc1 hc2 hs2 hB2
 generalize anyP (fun k=>outB lo hi (xs[k]?.getD 0)) n=r at HI ⊢
 go_enter Tryz.func31,Tryz.ntmps31
 go_wp2_with (first|(go_at_call 22;refine HI.out.mono ?_;rintro e w1 ⟨rfl,hb1⟩)|(go_at_call 30;refine (lwhen_c _ _ _).mono ?_;rintro e w2 ⟨rfl,rfl⟩))
 go_ret
 exact ⟨rfl,keep_trans HB.out hb1⟩
theorem checkLine1_c (a a':Option Addr) (n n' c c':Nat) (xs ys:List Int) (B:Nat) (w:World) (h:IC w a n xs) (h':IC w a' n' ys) (hc:w.cell? ⟨B,0,none⟩=some (.slice a' n' c')) :
  Calls Tryz.prog 78 #[.slice a n c,.pointer (some ⟨B,0,none⟩)] w fun e w'=>e = .returned (.bool (sameB xs ys))∧Below w.heap.size w w':=by
 have HI:=Lib.hid (equal_c a a' n n' c c' xs ys w h h')
 go_enter Tryz.func78,Tryz.ntmps78
 go_wp2_with (go_at_call 79;refine HI.out.mono ?_;rintro e w1 ⟨rfl,hb1⟩)
 go_ret
 exact ⟨rfl,hb1⟩
theorem checkLine1_fn:∀(args:Array Value) (w:World),Sem.run Tryz.prog (callFunc 78 args) w = .ok (.enter 78 args) w:=by
 intro args w;kernel_rfl
theorem anyP_line (ls:List (List Int)) (l:List Int):anyP (fun k=>sameB (ls[k]?.getD []) l) ls.length=hasLineB ls l:=by
 rw[Bool.eq_iff_iff]
 simp only[anyP,hasLineB,List.any_eq_true,List.mem_range,sameB,decide_eq_true_eq,List.contains_iff_mem]
 constructor
 ·rintro ⟨k,hk,e⟩
  rw[← e,List.getElem?_eq_getElem hk]
  simp
 ·intro hm
  obtain ⟨k,hk,e⟩:=List.getElem_of_mem hm
  exact ⟨k,hk,by rw[List.getElem?_eq_getElem hk];simp[e]⟩
theorem lineBad_first (cells:Int) (l:List Int) (k:Nat):lineBad cells l k=firstL [whenV (decide (l[k]?.getD 0<0)||decide (cells≤l[k]?.getD 0)) 10,whenV (decide (0<k)&&decide (l[k]?.getD 0≤l[k - 1]?.getD 0)) 11]:=by
 unfold lineBad
 by_cases h1:l[k]?.getD 0<0
 ·rw[if_pos (.inl h1)];simp[h1,whenV,firstL]
 by_cases h2:cells≤l[k]?.getD 0
 ·rw[if_pos (.inr h2)];simp[h2,whenV,firstL]
 rw[if_neg (by omega)]
 by_cases h3:0<k∧l[k]?.getD 0≤l[k - 1]?.getD 0
 ·rw[if_pos h3];simp[h1,h2,h3.1,h3.2,whenV,firstL]
 ·rw[if_neg h3]
  have:(decide (0<k)&&decide (l[k]?.getD 0≤l[k - 1]?.getD 0))=false:=by
   by_cases a:0<k
   ·have b:¬l[k]?.getD 0≤l[k - 1]?.getD 0:=fun b=>h3 ⟨a,b⟩
    simp[b]
   ·simp[a]
  rw[this]
  simp[h1,h2,whenV,firstL]
theorem checkLine_c (a:Option Addr) (n c:Nat) (ls:List (List Int)) (cells:Int) (i:Nat) (w:World) (h:RC w a n ls) (hcap:n≤c) (hi:i<n) :
  Calls Tryz.prog 68 #[.agg #[.int .i64 cells,.slice a n c],.int .i64 i] w fun e w'=>e = .returned (.int .i64 (lineErr cells ls i))∧Below w.heap.size w w':=by
 have hm:=h.small
 obtain ⟨b,off,a1,n1,c1,rfl,hb,hc,hI,hic⟩:=(h.mono (keep_alloc (Below.refl _ _) (.cells #[.int .i64 cells,.slice a n c] 44))).2 i hi
 have hm1:=hI.small
 have hii:(i:Int)<(n:Int):=by omega
 have hi0:(0:Int)≤(i:Int):=by omega
 have hicc:i≤c:=by omega
 by_cases hz:n1=0
 ·subst hz
  have hv:Hid (lineErr cells ls i=12):=by unfold Hid lineErr;rw[if_pos hI.len]
  go_enter Tryz.func68,Tryz.ntmps68
  go_wp2
  go_ret
  exact ⟨ret_int hv.out.symm,keep_alloc (keep_alloc (Below.refl _ _) _) _⟩
 have hz':((n1:Int)==0)=false:=by simpa using hz
 go_enter Tryz.func68,Tryz.ntmps68
 go_wp2
 have hB2:Below w.heap.size w ((w.alloc (.cells #[.int .i64 cells,.slice (some ⟨b,off,none⟩) n c] 44)).alloc (.cells #[.slice a1 n1 c1] 22)):=keep_alloc (keep_alloc (Below.refl _ _) _) _
 have x0:((w.alloc (.cells #[.int .i64 cells,.slice (some ⟨b,off,none⟩) n c] 44)).alloc (.cells #[.slice a1 n1 c1] 22)).cell? ⟨w.heap.size,0,none⟩=some (.int .i64 cells):=by
  rw[((bcell (W:=w.alloc (.cells #[.int .i64 cells,.slice (some ⟨b,off,none⟩) n c] 44)) (keep_alloc (Below.refl _ _) _)).1 _ _ (by simp)),box_cells];rfl
 have x1:((w.alloc (.cells #[.int .i64 cells,.slice (some ⟨b,off,none⟩) n c] 44)).alloc (.cells #[.slice a1 n1 c1] 22)).cell? ⟨w.heap.size,1,none⟩=some (.slice (some ⟨b,off,none⟩) n c):=by
  rw[((bcell (W:=w.alloc (.cells #[.int .i64 cells,.slice (some ⟨b,off,none⟩) n c] 44)) (keep_alloc (Below.refl _ _) _)).1 _ _ (by simp)),box_cells];rfl
 have x2:((w.alloc (.cells #[.int .i64 cells,.slice (some ⟨b,off,none⟩) n c] 44)).alloc (.cells #[.slice a1 n1 c1] 22)).cell? ⟨w.heap.size+1,0,none⟩=some (.slice a1 n1 c1):=by
  have:=box_cells (w.alloc (.cells #[.int .i64 cells,.slice (some ⟨b,off,none⟩) n c] 44)) #[.slice a1 n1 c1] 22 0
  rw[World.size_alloc] at this
  exact this.trans rfl
 have hs:w.heap.size+2≤((w.alloc (.cells #[.int .i64 cells,.slice (some ⟨b,off,none⟩) n c] 44)).alloc (.cells #[.slice a1 n1 c1] 22)).heap.size:=by simp
 have hI2:=hI.mono (keep_alloc (Below.refl _ _) (.cells #[.slice a1 n1 c1] 22))
 have hR2:=h.mono hB2
 generalize ((w.alloc (.cells #[.int .i64 cells,.slice (some ⟨b,off,none⟩) n c] 44)).alloc (.cells #[.slice a1 n1 c1] 22))=W0 at hB2 x0 x1 x2 hs hI2 hR2 ⊢
 have X0:=Lib.hid x0
 have X1:=Lib.hid x1
 have X2:=Lib.hid x2
 have hv:Hid (errs (lineBad cells (ls[i]?.getD [])) n1≠0→lineErr cells ls i=errs (lineBad cells (ls[i]?.getD [])) n1):=by
  intro he
  unfold lineErr;rw[if_neg (by rw[hI.len];exact hz),hI.len,if_pos he]
 clear x0 x1 x2 h hc hb hI
 go_loopw [6,7,8,19] (fun _ _ _ i2 wr=>∃k2:Nat,k2≤n1∧i2 = .int .i64 k2∧Hid (∀j,j<k2→lineBad cells (ls[i]?.getD []) j=0)∧Below W0.heap.size W0 wr) (fun _ _ _ i2 _=>n1 - (intOf i2).toNat)
 case atStart=>exact ⟨0,by omega,rfl,fun j hj=>absurd hj (by omega),Below.refl _ _⟩
 case round =>
  obtain ⟨k,hk,rfl,hn,hbr⟩:=hrel
  have hsr:w.heap.size+2≤wr.heap.size:=by have:=hbr.size;omega
  have hsr0:w.heap.size<wr.heap.size:=by omega
  have hsr1:w.heap.size+1<wr.heap.size:=by omega
  have y0:=((bcell hbr).1 _ _ (show w.heap.size<W0.heap.size by omega)).trans X0.out
  have y1:=((bcell hbr).1 _ _ (show w.heap.size<W0.heap.size by omega)).trans X1.out
  have y2:=((bcell hbr).1 _ _ (show w.heap.size+1<W0.heap.size by omega)).trans X2.out
  by_cases hlt:k<n1
  ·obtain ⟨b2,off2,rfl,hb2,hc2⟩:=(hI2.mono hbr).2 k hlt
   have hli:(k:Int)<(n1:Int):=by omega
   have hl0:(0:Int)≤(k:Int):=by omega
   have hF:=Lib.hid (lineBad_first cells (ls[i]?.getD []) k)
   by_cases g3:k=0
   ·have e3:decide (0<(k:Int))=false:=by simp;omega
    have e3':decide (0<k)=false:=by simp;omega
    clear g3
    by_cases g1:(ls[i]?.getD [])[k]?.getD 0<0
    ·have e1:decide ((ls[i]?.getD [])[k]?.getD 0<0)=true:=by simpa using g1
     have hG:Hid (lineBad cells (ls[i]?.getD []) k=firstL [whenV true 10,whenV false 11]):=by
      have:=hF.out;rw[e3',e1] at this;exact this
     clear hF
     go_wp2_with (first|(go_at_call 30;refine (lwhen_c _ _ _).mono ?_;rintro e w2 ⟨rfl,rfl⟩)|(go_at_call 29;refine (lfirst_c _ _ _ _ _ (IC.new2 _ _ _ _)).mono ?_;rintro e w2 ⟨rfl,rfl⟩))
     ·have he:(firstL [whenV true 10,whenV false 11] != 0)=true:=by assumption
      go_ret
      have h1:=errs_found hn.out hlt (by rw[hG.out];simpa using he)
      rw[hG.out] at h1
      exact ⟨ret_int (by rw[hv.out (by rw[h1];simpa using he),h1]),keep_alloc (hB2.trans (hbr.mono (by omega))) _⟩
    ·have e1:decide ((ls[i]?.getD [])[k]?.getD 0<0)=false:=by simpa using g1
     have hG:Hid (lineBad cells (ls[i]?.getD []) k=firstL [whenV (decide (cells≤(ls[i]?.getD [])[k]?.getD 0)) 10,whenV false 11]):=by
      have:=hF.out;rw[e3',e1] at this;exact this
     clear hF
     go_wp2_with (first|(go_at_call 30;refine (lwhen_c _ _ _).mono ?_;rintro e w2 ⟨rfl,rfl⟩)|(go_at_call 29;refine (lfirst_c _ _ _ _ _ (IC.new2 _ _ _ _)).mono ?_;rintro e w2 ⟨rfl,rfl⟩))
     ·have he:(firstL [whenV (decide (cells≤(ls[i]?.getD [])[k]?.getD 0)) 10,whenV false 11] != 0)=true:=by assumption
      go_ret
      have h1:=errs_found hn.out hlt (by rw[hG.out];simpa using he)
      rw[hG.out] at h1
      exact ⟨ret_int (by rw[hv.out (by rw[h1];simpa using he),h1]),keep_alloc (hB2.trans (hbr.mono (by omega))) _⟩
     ·have he:(firstL [whenV (decide (cells≤(ls[i]?.getD [])[k]?.getD 0)) 10,whenV false 11] != 0)=false:=by assumption
      go_roundw
      case rel=>exact ⟨k+1,by omega,by go_num,upto_snoc hn.out (by rw[hG.out];simpa using he),keep_alloc hbr _⟩
      case measure=>simp[intOf];omega
   ·have e3:decide (0<(k:Int))=true:=by simp;omega
    have e3':decide (0<k)=true:=by simp;omega
    have gn:(0:Int)≤(k:Int) - 1:=by omega
    have gl:(k:Int) - 1<(n1:Int):=by omega
    have hcp':wr.cell? ⟨b2,off2+(k - 1),none⟩=some (.int .i64 ((ls[i]?.getD [])[k - 1]?.getD 0)):=by
     obtain ⟨b3,off3,e,_,hc3⟩:=(hI2.mono hbr).2 (k - 1) (by omega)
     simp only[Option.some.injEq,Addr.mk.injEq,and_true] at e
     obtain ⟨rfl,rfl⟩:=e
     exact hc3
    clear g3
    by_cases g1:(ls[i]?.getD [])[k]?.getD 0<0
    ·have e1:decide ((ls[i]?.getD [])[k]?.getD 0<0)=true:=by simpa using g1
     have hG:Hid (lineBad cells (ls[i]?.getD []) k=firstL [whenV true 10,whenV (decide ((ls[i]?.getD [])[k]?.getD 0≤(ls[i]?.getD [])[k - 1]?.getD 0)) 11]):=by
      have:=hF.out;rw[e3',e1] at this;exact this
     clear hF
     go_wp2_with (first|(go_at_call 30;refine (lwhen_c _ _ _).mono ?_;rintro e w2 ⟨rfl,rfl⟩)|(go_at_call 29;refine (lfirst_c _ _ _ _ _ (IC.new2 _ _ _ _)).mono ?_;rintro e w2 ⟨rfl,rfl⟩))
     ·have he:(firstL [whenV true 10,whenV (decide ((ls[i]?.getD [])[k]?.getD 0≤(ls[i]?.getD [])[k - 1]?.getD 0)) 11] != 0)=true:=by assumption
      go_ret
      have h1:=errs_found hn.out hlt (by rw[hG.out];simpa using he)
      rw[hG.out] at h1
      exact ⟨ret_int (by rw[hv.out (by rw[h1];simpa using he),h1]),keep_alloc (hB2.trans (hbr.mono (by omega))) _⟩
    ·have e1:decide ((ls[i]?.getD [])[k]?.getD 0<0)=false:=by simpa using g1
     have hG:Hid (lineBad cells (ls[i]?.getD []) k=firstL [whenV (decide (cells≤(ls[i]?.getD [])[k]?.getD 0)) 10,whenV (decide ((ls[i]?.getD [])[k]?.getD 0≤(ls[i]?.getD [])[k - 1]?.getD 0)) 11]):=by
      have:=hF.out;rw[e3',e1] at this;exact this
     clear hF
     go_wp2_with (first|(go_at_call 30;refine (lwhen_c _ _ _).mono ?_;rintro e w2 ⟨rfl,rfl⟩)|(go_at_call 29;refine (lfirst_c _ _ _ _ _ (IC.new2 _ _ _ _)).mono ?_;rintro e w2 ⟨rfl,rfl⟩))
     ·have he:(firstL [whenV (decide (cells≤(ls[i]?.getD [])[k]?.getD 0)) 10,whenV (decide ((ls[i]?.getD [])[k]?.getD 0≤(ls[i]?.getD [])[k - 1]?.getD 0)) 11] != 0)=true:=by assumption
      go_ret
      have h1:=errs_found hn.out hlt (by rw[hG.out];simpa using he)
      rw[hG.out] at h1
      exact ⟨ret_int (by rw[hv.out (by rw[h1];simpa using he),h1]),keep_alloc (hB2.trans (hbr.mono (by omega))) _⟩
     ·have he:(firstL [whenV (decide (cells≤(ls[i]?.getD [])[k]?.getD 0)) 10,whenV (decide ((ls[i]?.getD [])[k]?.getD 0≤(ls[i]?.getD [])[k - 1]?.getD 0)) 11] != 0)=false:=by assumption
      go_roundw
      case rel=>exact ⟨k+1,by omega,by go_num,upto_snoc hn.out (by rw[hG.out];simpa using he),keep_alloc hbr _⟩
      case measure=>simp[intOf];omega
  ·have e:k=n1:=by omega
   subst e
   have he:=Lib.hid (errs_none hn.out)
   have hw:Hid (lineErr cells ls i=whenV (hasLineB (ls.take i) (ls[i]?.getD [])) 9):=by
    unfold Hid lineErr whenV;rw[if_neg (by rw[hI2.len];exact hz),hI2.len,if_neg (by rw[he.out];omega)]
   have hR3:=(hR2.mono hbr).take i (by omega)
   have hE:Hid (anyP (fun j=>sameB ((ls.take i)[j]?.getD []) (ls[i]?.getD [])) i=hasLineB (ls.take i) (ls[i]?.getD [])):=by
    have:=anyP_line (ls.take i) (ls[i]?.getD [])
    rw[hR3.len] at this
    exact this
   have HI:=Lib.hid (containsFuncR_c _ i c _ 78 #[.pointer (some ⟨w.heap.size+1,0,none⟩)] (fun j=>sameB ((ls.take i)[j]?.getD []) (ls[i]?.getD [])) wr hR3 checkLine1_fn
    (fun j _ w' a3 n3 c3 hb3 hi3 _=>checkLine1_c a3 a1 n3 k c3 c1 _ _ _ w' hi3 ((hI2.mono hbr).mono hb3) (((bcell hb3).1 _ _ hsr1).trans y2)))
   rw[hE.out] at HI
   clear hE he hR3
   generalize hasLineB (ls.take i) (ls[i]?.getD [])=r at hw HI
   go_wp2_with (first|(go_at_call 20;refine HI.out.mono ?_;rintro e w1 ⟨rfl,hb1⟩)|(go_at_call 30;refine (lwhen_c _ _ _).mono ?_;rintro e w2 ⟨rfl,rfl⟩))
   go_ret
   exact ⟨ret_int hw.out.symm,(hB2.trans (hbr.mono (by omega))).trans (hb1.mono (by omega))⟩
end
section
open Go Go.RowKit
attribute [local go_sem] over_cell
theorem sys_first (cells:Int) (n:Nat):firstL [whenV (anyP (fun k=>outB 1 256 ([cells][k]?.getD 0)) 1) 3,whenV (decide (128<(n:Int))) 5]=(if cells<1∨cells>256 then 3 else if n>128 then 5 else 0):=by
 have e:anyP (fun k=>outB 1 256 ([cells][k]?.getD 0)) 1=outB 1 256 cells:=by simp[anyP,List.range_succ]
 rw[e]
 by_cases h1:cells<1∨cells>256
 ·rw[if_pos h1]
  have:outB 1 256 cells=true:=by
   rcases h1 with h|h
   ·simp[outB,h]
   ·have h':256<cells:=h
    simp[outB,h']
  simp[this,whenV,firstL]
 ·rw[if_neg h1]
  have:outB 1 256 cells=false:=by
   have a:¬cells<1:=fun h=>h1 (.inl h)
   have b:¬256<cells:=fun h=>h1 (.inr h)
   simp[outB,a,b]
  by_cases h2:n>128
  ·have h2':(128:Int)<n:=by omega
   simp[this,whenV,firstL,h2,h2']
  ·have h2':¬(128:Int)<n:=by omega
   simp[this,whenV,firstL,h2,h2']
theorem sys_c (a:Option Addr) (n c:Nat) (ls:List (List Int)) (cells:Int) (w:World) (h:RC w a n ls) (hcap:n≤c) :
  Calls Tryz.prog 53 #[.agg #[.int .i64 cells,.slice a n c]] w fun e w'=>e = .returned (.int .i64 (sysErr cells ls))∧Below w.heap.size w w':=by
 have hm:=h.small
 have hF:Hid (sysErr cells ls=if firstL [whenV (anyP (fun k=>outB 1 256 ([cells][k]?.getD 0)) 1) 3,whenV (decide (128<(n:Int))) 5]≠0 then firstL [whenV (anyP (fun k=>outB 1 256 ([cells][k]?.getD 0)) 1) 3,whenV (decide (128<(n:Int))) 5] else errs (lineErr cells ls) n):=by
  unfold Hid
  rw[sys_first,sysErr,h.len]
  by_cases h1:cells<1∨cells>256
  ·simp[h1]
  ·by_cases h2:n>128
   ·simp[h1,h2]
   ·simp[h1,h2]
 go_enter Tryz.func53,Tryz.ntmps53
 go_wp2
 have hsz:w.heap.size<(w.alloc (.cells #[.int .i64 cells,.slice a n c] 44)).heap.size:=by simp
 have hB:Below w.heap.size w (w.alloc (.cells #[.int .i64 cells,.slice a n c] 44)):=(Below.refl _ _).alloc (Nat.le_refl _) _
 have x0:(w.alloc (.cells #[.int .i64 cells,.slice a n c] 44)).cell? ⟨w.heap.size,0,none⟩=some (.int .i64 cells):=(box_cells w #[.int .i64 cells,.slice a n c] 44 0).trans rfl
 have x1:(w.alloc (.cells #[.int .i64 cells,.slice a n c] 44)).cell? ⟨w.heap.size,1,none⟩=some (.slice a n c):=(box_cells w #[.int .i64 cells,.slice a n c] 44 1).trans rfl
 generalize (w.alloc (.cells #[.int .i64 cells,.slice a n c] 44))=W0 at hsz hB x0 x1 ⊢
 have h0:=h.mono hB
 refine wp_region_S (fun w'=>∃u,w'=over (W0) u) [11,10,9,8] [(0,0),(0,1),(0,4),(0,5),(0,6),(0,7),(1,2),(1,3),(2,8),(2,9),(2,10),(2,11)] (by kernel_rfl) (by kernel_rfl) (by exact ⟨_,below_over (by repeat (first|assumption|exact Below.refl _ _|refine keep_drew ?_|refine keep_alloc ?_ _|refine keep_trans ?_ (by assumption)))⟩) ?_
 dsimp only[pickOps,nthOp]
 repeat (first|(refine wpS_skip rfl (fun K hK=>?_);go_big_quiet_op;refine hK _ ?_;clear hK K)|(refine wpS_quiet rfl rfl (fun K hK=>?_);go_big_quiet_op;refine hK _ ?_;clear hK K)|(refine wpS_loud ?_;go_wp2_with (first|(go_at_call 31;refine (from_c _ _ _ [cells] _ _ _ ((IC.new1 _ _ _).mono (keep_drew (Below.refl _ _)))).mono ?_;rintro e w1 ⟨rfl,hb1⟩)|(go_at_call 30;refine (lwhen_c _ _ _).mono ?_;rintro e w2 ⟨rfl,rfl⟩)|(go_at_call 29;refine (lfirst_c _ _ _ _ _ (IC.new2 _ _ _ _)).mono ?_;rintro e w2 ⟨rfl,rfl⟩));refine ⟨?_,?_⟩;focus (exact ⟨_,below_over (by repeat (first|assumption|exact Below.refl _ _|refine keep_drew ?_|refine keep_alloc ?_ _|refine keep_trans ?_ (by assumption)))⟩)))
 refine wpS_late _ _ _ rfl ?_
 dsimp only[List.map]
 go_wp2_with (first|(go_at_call 31;refine (from_c _ _ _ [cells] _ _ _ ((IC.new1 _ _ _).mono (keep_drew (Below.refl _ _)))).mono ?_;rintro e w1 ⟨rfl,hb1⟩)|(go_at_call 30;refine (lwhen_c _ _ _).mono ?_;rintro e w2 ⟨rfl,rfl⟩)|(go_at_call 29;refine (lfirst_c _ _ _ _ _ (IC.new2 _ _ _ _)).mono ?_;rintro e w2 ⟨rfl,rfl⟩))
 refine NoPanic.normal ?_
 have hb2:Below W0.heap.size W0 (w1.alloc (.cells #[.int .i64 (whenV (anyP (fun k=>outB 1 256 ([cells][k]?.getD 0)) 1) 3),.int .i64 (whenV (decide (128<(n:Int))) 5)] 32)):=keep_alloc (keep_trans (keep_drew (keep_alloc (Below.refl _ _) _)) hb1) _
 generalize (w1.alloc (.cells #[.int .i64 (whenV (anyP (fun k=>outB 1 256 ([cells][k]?.getD 0)) 1) 3),.int .i64 (whenV (decide (128<(n:Int))) 5)] 32))=w3 at hb2 ⊢
 clear hb1
 generalize firstL [whenV (anyP (fun k=>outB 1 256 ([cells][k]?.getD 0)) 1) 3,whenV (decide (128<(n:Int))) 5]=v at hF ⊢
 have hB3:Below w.heap.size w w3:=hB.trans (hb2.mono (by omega))
 have h3:=h0.mono hb2
 have hsz3:w.heap.size<w3.heap.size:=by have:=hb2.size;omega
 have y0:=((bcell hb2).1 _ _ hsz).trans x0
 have y1:=((bcell hb2).1 _ _ hsz).trans x1
 clear x0 x1
 by_cases hv:v=0
 case neg =>
  have hv':(v != 0)=true:=by simpa using hv
  have hV:=Lib.hid hv
  clear hv
  go_wp2
  go_ret
  exact ⟨ret_int (by rw[hF.out,if_pos hV.out]),hB3⟩
 have hv':(v != 0)=false:=by simpa using hv
 have hV:=Lib.hid hv
 clear hv
 go_wp2
 have Y0:=Lib.hid y0
 have Y1:=Lib.hid y1
 clear y0 y1
 go_loopw [4,5,23] (fun _ _ i wr=>∃k:Nat,k≤n∧i = .int .i64 k∧Hid (∀j,j<k→lineErr cells ls j=0)∧Below w3.heap.size w3 wr) (fun _ _ i _=>n - (intOf i).toNat)
 case atStart=>exact ⟨0,by omega,rfl,fun j hj=>absurd hj (by omega),Below.refl _ _⟩
 case round =>
  obtain ⟨k,hk,rfl,hn,hbr⟩:=hrel
  have z0:=((bcell hbr).1 _ _ hsz3).trans Y0.out
  have z1:=((bcell hbr).1 _ _ hsz3).trans Y1.out
  by_cases hlt:k<n
  ·have HI:=Lib.hid (checkLine_c a n c ls cells k wr (h3.mono hbr) hcap hlt)
   go_wp2_with (go_at_call 68;refine HI.out.mono ?_;rintro e w4 ⟨rfl,hb4⟩)
   ·have he:(lineErr cells ls k != 0)=true:=by assumption
    go_ret
    have h1:=errs_found hn.out hlt (by simpa using he)
    exact ⟨ret_int (by rw[hF.out,if_neg (by rw[hV.out];simp),h1]),(hB3.trans (hbr.mono (by omega))).trans (hb4.mono (by have:=hbr.size;omega))⟩
   ·have he:(lineErr cells ls k != 0)=false:=by assumption
    go_roundw
    case rel=>exact ⟨k+1,by omega,by go_num,upto_snoc hn.out (by simpa using he),hbr.trans (hb4.mono hbr.size)⟩
    case measure=>simp[intOf];omega
  ·have e:k=n:=by omega
   subst e
   go_wp2
   go_ret
   exact ⟨ret_int (by rw[hF.out,if_neg (by rw[hV.out];simp),errs_none hn.out]),hB3.trans (hbr.mono (by omega))⟩
end
section
open Go Go.RowKit
attribute [local go_sem] over_cell
end
section
open Go Go.RowKit
attribute [local go_sem] over_cell
theorem PutW.set {w w':World} {b off M M':Nat} (h:SetC w b off M) (hp:PutW w w' b off M M'):SetC w' b off M':=by
 obtain ⟨q,hq,rfl,ho⟩:=hp
 intro q' hq'
 show (w.setCell _ _).cell? _=_
 by_cases e:q'=q
 ·subst e
  exact World.cell?_setCell_same _ _ _ (h q' hq')
 ·rw[World.cell?_setCell_other _ _ _ _ (fun e2=>e (by simp only[Addr.mk.injEq,true_and,and_true] at e2;omega)),h q' hq',ho q' e]
theorem PutW.frozen {w w':World} {b off M M':Nat} (hp:PutW w w' b off M M') (a:Addr):w'.frozen? a=w.frozen? a:=by
 obtain ⟨q,hq,rfl,ho⟩:=hp
 show (w.setCell _ _).frozen? _=_
 exact World.frozen?_setCell _ _ _ _
theorem SetC.mono {w w':World} {b off M:Nat} (h:SetC w b off M) (hb:Below w.heap.size w w') (hlt:b<w.heap.size):SetC w' b off M :=
 fun q hq=>((bcell hb).1 b _ hlt).trans (h q hq)
theorem PutW.size {w w':World} {b off M M':Nat} (hp:PutW w w' b off M M'):w.heap.size=w'.heap.size:=by
 obtain ⟨q,hq,rfl,ho⟩:=hp
 simp[World.drew,World.setCell]
theorem PutW.below {w w':World} {b off M M':Nat} (hp:PutW w w' b off M M'):Below b w w':=by
 obtain ⟨q,hq,rfl,ho⟩:=hp
 exact ((Below.refl b w).setCell (p:=⟨b,off+q,none⟩) (Nat.le_refl _) _).drew
def maskL (xs:List Int):Nat:=xs.foldl (fun M x=>if 0<x then M ||| 2 ^ (x.toNat - 1) else M) 0
def unusedTo (g:List Int) (k:Nat):List Int:=((List.range k).filter (fun (i:Nat)=>!hasB g ((i:Int)+1))).map (fun (i:Nat)=>(i:Int)+1)
def unusedL (g:List Int):List Int:=unusedTo g g.length
end
section
open Go Go.RowKit
attribute [local go_sem] over_cell
theorem owns_shape {w:World} {base:Nat} {e:TypeId} {v:Value} {n:Nat} {xs:List Value} (h:w.ownsRow base e 1 v n xs):∃a c,v = .slice a n c:=by
 rcases h.2 with ⟨h2,h3⟩|⟨g,cap,cur,hv,_⟩
 ·exact ⟨none,0,by rw[h2,h3]⟩
 ·exact ⟨_,_,hv⟩
theorem run_nilI (w:World) (a:Option Addr) (n c:Nat):(binOp .eql 22 (.slice a n c) (.slice none 0 0)).run Tryz.prog w = .ok (.bool a.isNone) w :=
 Go.Lib.run_eql_slice_nil w _ _ a n c 0 0 Tryz.underlying22
attribute [local go_sem] run_nilI
theorem IC.cells {w:World} {p:Addr} {n:Nat} {g:List Int} (h:IC w (some p) n g) (j:Nat) (u:Value) (hj:(g.map (Value.int .i64))[j]?=some u):w.cell? (p.add j)=some u:=by
 rw[List.getElem?_map,Option.map_eq_some_iff] at hj
 obtain ⟨x,hx,rfl⟩:=hj
 have hl:=h.len
 have hlt:j<g.length:=(List.getElem?_eq_some_iff.1 hx).1
 obtain ⟨b,off,e,_,hc⟩:=h.2 j (by omega)
 obtain rfl:p=⟨b,off,none⟩:=by simpa using e
 have e2:(⟨b,off,none⟩:Addr).add j=⟨b,off+j,none⟩:=by
  cases j <;> simp[Addr.add]
 rw[e2,hc,hx];rfl
theorem clone_c (a:Option Addr) (n c:Nat) (g:List Int) (w:World) (h:IC w a n g) :
  Calls Tryz.prog 15 #[.slice a n c] w fun e w'=>∃v,e = .returned v∧w'.ownsRow w.heap.size 3 1 v g.length (g.map (Value.int .i64))∧Below w.heap.size w w':=by
 have hm:=h.small
 have hl:=h.len
 obtain ⟨i0,hi,hz0,hz1,hz2⟩:=info_parts infoInt
 cases a with
 | none =>
  have hn:n=0:=by
   rcases Nat.eq_zero_or_pos n with h0|h0
   ·exact h0
   ·obtain ⟨_,_,e,_⟩:=h.2 0 h0
    cases e
  subst hn
  have hg:g=[]:=List.length_eq_zero_iff.1 hl
  subst hg
  go_enter Tryz.func15,Tryz.ntmps15
  go_wp2
  go_ret
  exact ⟨_,rfl,World.ownsRow_nil _ _ _ _,Below.refl _ _⟩
 | some p =>
  go_enter Tryz.func15,Tryz.ntmps15
  go_wp2_with (at_builtin;refine wpList_append_own _ rfl _ _ 22 rfl w.heap.size 3 i0 (.int .i64 0) 1 8 Tryz.underlying22 hi hz0 hz1 hz2 rfl (by decide) _ 0 [] rfl (World.ownsRow_made w #[] 0 (Nat.le_refl _) (by decide) rfl) p n c (g.map (Value.int .i64)) rfl (by simp[hl]) ?_ ?_ (by unfold maxLen;omega) (by omega) (by simp) ?_)
  ·intro j u hj
   exact (h.mono ((Below.refl _ _).alloc (Nat.le_refl _) _)).cells j u hj
  ·intro u hu
   obtain ⟨x,_,rfl⟩:=List.mem_map.1 hu
   rfl
  ·intro v' w1 hown hgrow _
   have hb1:Below w.heap.size w w1:=((Below.refl w.heap.size w).alloc (Nat.le_refl _) _).grown hgrow (by simp) (fun j e=>by simp[Value.ownBlock] at e;omega)
   clear hgrow
   go_wp2
   go_ret
   exact ⟨_,rfl,by rw[hl];exact hown,hb1⟩
end
section
open Go Go.RowKit
attribute [local go_sem] over_cell
structure Stays (S:Nat→Prop) (w w':World):Prop where
 os:w'.os=w.os
 tape:w'.tape=w.tape
 output:w'.output=w.output
 size:w.heap.size≤w'.heap.size
 block:∀k,k<w.heap.size→¬S k→w'.heap[k]?=w.heap[k]?
theorem Stays.refl (S:Nat→Prop) (w:World):Stays S w w:=⟨rfl,rfl,rfl,Nat.le_refl _,fun _ _ _=>rfl⟩
theorem Stays.trans {S T:Nat→Prop} {a b c:World} (h:Stays S a b) (k:Stays T b c) (ht:∀i,T i→S i∨a.heap.size≤i):Stays S a c :=
 ⟨k.os.trans h.os,k.tape.trans h.tape,k.output.trans h.output,Nat.le_trans h.size k.size,fun i hi hs =>
  (k.block i (Nat.lt_of_lt_of_le hi h.size) (fun t=>(ht i t).elim hs (fun e=>by omega))).trans (h.block i hi hs)⟩
theorem Stays.mono {S T:Nat→Prop} {a b:World} (h:Stays S a b) (hs:∀i,S i→T i):Stays T a b :=
 ⟨h.os,h.tape,h.output,h.size,fun i hi ht=>h.block i hi (fun s=>ht (hs i s))⟩
theorem Stays.drew {S:Nat→Prop} {a w:World} (h:Stays S a w):Stays S a w.drew:=⟨h.os,h.tape,h.output,h.size,h.block⟩
theorem Below.stays {w w':World} (h:Below w.heap.size w w') (S:Nat→Prop):Stays S w w':=⟨h.os,h.tape,h.output,h.size,fun k hk _=>h.block k hk⟩
theorem Stays.below {S:Nat→Prop} {w w':World} (h:Stays S w w') {B:Nat} (hB:B≤w.heap.size) (hs:∀k,S k→B≤k):Below B w w' :=
 ⟨h.os,h.tape,h.output,h.size,fun k hk=>h.block k (by omega) (fun e=>by have:=hs k e;omega)⟩
theorem Stays.setCell {S:Nat→Prop} (w:World) {p:Addr} (hp:S p.block) (u:Value):Stays S w (w.setCell p u) :=
 ⟨rfl,rfl,rfl,by simp[World.setCell],fun k _ hs=>Below.heap_setCell _ _ _ _ (fun e=>hs (e▸hp))⟩
theorem Stays.grown {S:Nat→Prop} {w w':World} {row:Option Nat} (hg:w.grownBy w' row) (hr:∀k,row=some k→S k):Stays S w w' :=
 ⟨hg.os,hg.tape,hg.output,hg.size,fun k hk hs=>hg.block k hk (fun e=>hs (hr k e.symm))⟩
theorem Stays.cell {S:Nat→Prop} {w w':World} (h:Stays S w w') {b o:Nat} (hb:b<w.heap.size) (hs:¬S b):w'.cell? ⟨b,o,none⟩=w.cell? ⟨b,o,none⟩ :=
 World.cell?_of_block (h.block b hb hs)
theorem Stays.frozen {S:Nat→Prop} {w w':World} (h:Stays S w w') {b o:Nat} (hb:b<w.heap.size) (hs:¬S b):w'.frozen? ⟨b,o,none⟩=w.frozen? ⟨b,o,none⟩ :=
 World.frozen?_of_block (h.block b hb hs)
def Sure (Im:Nat→Prop) (w:World) (φ:World→Prop):Prop:=∀w',w.heap.size≤w'.heap.size→(∀k,Im k→w'.heap[k]?=w.heap[k]?)→φ w'
theorem Sure.keep {Im:Nat→Prop} {w w':World} {φ:World→Prop} (h:Sure Im w φ) (hs:w.heap.size≤w'.heap.size) (hb:∀k,Im k→w'.heap[k]?=w.heap[k]?):Sure Im w' φ :=
 fun w2 h2 hb2=>h w2 (Nat.le_trans hs h2) fun k hk=>(hb2 k hk).trans (hb k hk)
structure Cst where
 cells:Int
 a:Option Addr
 n:Nat
 c:Nat
 ls:List (List Int)
 sum:Int
 a':Option Addr
 n':Nat
 c':Nat
 g:List Int
 ao:Option Addr
 co:Nat
 al:Nat
 cl:Nat
def Cst.O (C:Cst):List Int:=openL C.g
def lastO (O:List Int) (l:List Int):Nat:=(List.range O.length).foldl (fun m i=>if hasB l (O[i]?.getD 0)=true then i+1 else m) 0
def Cst.tbl (C:Cst) (k:Nat):List (List Int):=C.ls.filter (fun l=>lastO C.O l==k)
structure Imm (C:Cst) (w:World):Prop where
 o:IC w C.ao C.O.length C.O
 oc:C.O.length≤C.co
 t:∀k,k≤C.O.length→∃ak nk ck,w.cell? ⟨C.al,k,none⟩=some (.slice ak nk ck)∧C.al<w.heap.size∧RC w ak nk (C.tbl k)∧nk≤ck
structure Fine (C:Cst):Prop where
 len:C.g.length=C.n'
 most:C.n'≤256
 num:∀k:Nat,0≤C.g[k]?.getD 0∧C.g[k]?.getD 0≤256
 line:∀l,l∈C.ls→l.length≤1000∧∀x,x∈l→0≤x∧x<(C.n':Int)
def fillP (C:Cst) (P:List Int):List Int:=(C.O.zip P).foldl (fun f cx=>f.set cx.1.toNat cx.2) C.g
def leftL (C:Cst) (P:List Int):List Int:=(unusedL C.g).filter (fun x=>!hasB P x)
structure OkP (C:Cst) (P:List Int):Prop where
 len:P.length≤C.O.length
 num:∀x,x∈P→x∈unusedL C.g
 nodup:P.Nodup
def Mut (b:Nat) (vf vp:Value) (k:Nat):Prop:=k=b∨vf.ownBlock=some k∨vp.ownBlock=some k
structure SR (w:World) (b:Nat) (Im:Nat→Prop) (C:Cst) (vf vp:Value) (P:List Int):Prop where
 fine:Fine C
 ok:OkP C P
 imLt:∀k,Im k→k<w.heap.size
 sure:Sure Im w (Imm C)
 lt:b<w.heap.size
 nb:¬Im b
 nf:∀k,vf.ownBlock=some k→¬Im k∧k≠b
 np:∀k,vp.ownBlock=some k→¬Im k∧k≠b∧vf.ownBlock≠some k
 f:w.ownsRow 0 3 1 vf (fillP C P).length ((fillP C P).map (Value.int .i64))
 p:w.ownsRow 0 3 1 vp P.length (P.map (Value.int .i64))
 c0:w.cell? ⟨b,0,none⟩=some (.int .i64 C.cells)
 c1:w.cell? ⟨b,1,none⟩=some (.slice C.a C.n C.c)
 c2:w.cell? ⟨b,2,none⟩=some (.int .i64 C.sum)
 c3:w.cell? ⟨b,3,none⟩=some (.slice C.a' C.n' C.c')
 c4:w.cell? ⟨b,4,none⟩=some (.slice C.ao C.O.length C.co)
 set:SetC w b 5 (maskL (leftL C P))
 c9:w.cell? ⟨b,9,none⟩=some (.slice (some ⟨C.al,0,none⟩) (C.O.length+1) C.cl)
 c10:w.cell? ⟨b,10,none⟩=some vf
 c11:w.cell? ⟨b,11,none⟩=some vp
 fz:∀i,i<12→w.frozen? ⟨b,i,none⟩=false
theorem owns_keep {w w':World} {base:Nat} {e:TypeId} {size:Nat} {v:Value} {n:Nat} {xs:List Value} (h:w.ownsRow base e size v n xs) (hk:∀k,v.ownBlock=some k→k<w.heap.size→w'.heap[k]?=w.heap[k]?):w'.ownsRow base e size v n xs:=by
 refine ⟨h.1,h.2.imp id ?_⟩
 rintro ⟨g,cap,cur,rfl,hb,hh,r⟩
 exact ⟨g,cap,cur,rfl,hb,(hk g rfl (Array.getElem?_eq_some_iff.1 hh).1).trans hh,r⟩
theorem SR.keep {w w':World} {b:Nat} {Im:Nat→Prop} {C:Cst} {vf vp:Value} {P:List Int} (h:SR w b Im C vf vp P) (hs:w.heap.size≤w'.heap.size) (hk:∀k,k<w.heap.size→Im k∨Mut b vf vp k→w'.heap[k]?=w.heap[k]?):SR w' b Im C vf vp P:=by
 have hb:w'.heap[b]?=w.heap[b]?:=hk b h.lt (.inr (.inl rfl))
 have hc:∀i,w'.cell? ⟨b,i,none⟩=w.cell? ⟨b,i,none⟩:=fun i=>World.cell?_of_block hb
 exact { fine:=h.fine,ok:=h.ok,imLt:=fun k e=>Nat.lt_of_lt_of_le (h.imLt k e) hs,sure:=h.sure.keep hs (fun k e=>hk k (h.imLt k e) (.inl e)),lt:=Nat.lt_of_lt_of_le h.lt hs,nb:=h.nb,nf:=h.nf,np:=h.np,f:=owns_keep h.f (fun k e hlt=>hk k hlt (.inr (.inr (.inl e)))),p:=owns_keep h.p (fun k e hlt=>hk k hlt (.inr (.inr (.inr e)))),c0:=(hc 0).trans h.c0,c1:=(hc 1).trans h.c1,c2:=(hc 2).trans h.c2,c3:=(hc 3).trans h.c3,c4:=(hc 4).trans h.c4,set:=fun q hq=>(hc (5+q)).trans (h.set q hq),c9:=(hc 9).trans h.c9,c10:=(hc 10).trans h.c10,c11:=(hc 11).trans h.c11,fz:=fun i hi=>(World.frozen?_of_block hb).trans (h.fz i hi) }
theorem SR.below {w w':World} {b:Nat} {Im:Nat→Prop} {C:Cst} {vf vp:Value} {P:List Int} (h:SR w b Im C vf vp P) (hb:Below w.heap.size w w'):SR w' b Im C vf vp P :=
 h.keep hb.size fun k hk _=>hb.block k hk
end
section
open Go Go.RowKit
attribute [local go_sem] over_cell
end
section
open Go Go.RowKit
attribute [local go_sem] over_cell
theorem owns_set {w:World} {base:Nat} {e:TypeId} {g n cap:Nat} {xs:List Value} (h:w.ownsRow base e 1 (.slice (some ⟨g,0,none⟩) n cap) n xs) (i:Nat) (v:Value) :
  (w.setCell ⟨g,i,none⟩ v).ownsRow base e 1 (.slice (some ⟨g,0,none⟩) n cap) n (xs.set i v):=by
 obtain ⟨h1,h2⟩:=h
 refine ⟨by rw[List.length_set];exact h1,.inr ?_⟩
 rcases h2 with ⟨h2,_⟩|⟨g',cap',cur,hv,hb,hh,hn,hm,hs,ht⟩
 ·cases h2
 ·simp only[Value.slice.injEq,Option.some.injEq,Addr.mk.injEq,true_and,and_true] at hv
  obtain ⟨rfl,rfl⟩:=hv
  have hlt:=lt_of_block hh
  have h':w.heap[g] = .cells cur e (0,0):=by simpa [Array.getElem?_eq_getElem hlt] using hh
  refine ⟨g,cap,cur.setIfInBounds i v,rfl,hb,?_,hn,hm,by simpa using hs,?_⟩
  ·show (w.heap.modify g _)[g]?=_
   rw[Array.getElem?_eq_getElem (by simpa using hlt),Array.getElem_modify_self,h']
   rfl
  ·rw[← ht,Array.toList_setIfInBounds,List.take_set]
theorem owns_free {w:World} {base:Nat} {e:TypeId} {v:Value} {n:Nat} {xs:List Value} (h:w.ownsRow base e 1 v n xs) (i:Nat) (hi:i<n):∃g cap x,v = .slice (some ⟨g,0,none⟩) n cap∧xs[i]?=some x∧w.cell? ⟨g,i,none⟩=some x∧w.frozen? ⟨g,i,none⟩=false∧g<w.heap.size∧n≤cap:=by
 obtain ⟨h1,h2⟩:=h
 rcases h2 with ⟨_,h3⟩|⟨g,cap,cur,hv,hb,hh,hn,hm,hs,ht⟩
 ·omega
 ·obtain ⟨x,hx⟩:∃x,xs[i]?=some x:=⟨xs[i]'(by omega),List.getElem?_eq_getElem (by omega)⟩
  refine ⟨g,cap,x,hv,hx,?_,by simp[World.frozen?,hh],lt_of_block hh,hn⟩
  rw[cell_of_row w g i cur e (0,0) hh]
  rw[← ht,List.getElem?_take,if_pos (by omega)] at hx
  simpa using hx
theorem PutW.stays {w w':World} {b off M M':Nat} (hp:PutW w w' b off M M'):Stays (fun k=>k=b) w w':=by
 obtain ⟨q,hq,rfl,ho⟩:=hp
 exact (Stays.setCell (S:=fun k=>k=b) w (p:=⟨b,off+q,none⟩) rfl _).drew
theorem PutW.cell {w w':World} {b off M M':Nat} (hp:PutW w w' b off M M') (i:Nat) (hi:i<off∨off+4≤i):w'.cell? ⟨b,i,none⟩=w.cell? ⟨b,i,none⟩:=by
 obtain ⟨q,hq,rfl,ho⟩:=hp
 exact World.cell?_setCell_other _ _ _ _ (fun e=>by simp only[Addr.mk.injEq,true_and,and_true] at e;omega)
end
section
open Go Go.RowKit
theorem run_append_own2 {P:Program} (w:World) (t ty e:TypeId) (i:TypeInfo) (z:Value) (size bytes:Nat) (ht:P.underlying t=some (.slice e)) (hi:P.info? e=some i) (hz:i.zero=some z)
  (hsize:i.size=size) (hby:i.bytes=bytes) (hzs:z.cells.size=size) (hsz:0<size)
  (v:Value) (n:Nat) (xs:List Value) (hown:w.ownsRow 0 e size v n xs)
  (a:Addr) (m c:Nat) (news:List Value) (hl:news.length=m*size) (hnews:∀j u,news[j]?=some u→w.cell? (a.add j)=some u) (h1:∀u∈news,u.oneCell'=true)
  (h63:n+m≤maxLen) (hbytes:(n+m)*bytes≤140737488355328) :
  ∃v' w',(Builtin.append_ #[t,t] ty #[v,.slice (some a) m c]).run P w = .ok v' w'∧w'.ownsRow 0 e size v' (n+m) (xs++news)∧w.grownBy w' v.ownBlock∧(∀k,v'.ownBlock=some k→v.ownBlock=some k∨w.heap.size≤k):=by
 obtain ⟨v',w',hr,h2,h3,_⟩:=run_append_own (P:=P) w 0 t ty e i z size bytes ht hi hz hsize hby hzs hsz v n xs hown a m c news hl hnews h1 h63 hbytes (Nat.zero_le _)
 refine ⟨v',w',hr,h2,h3,?_⟩
 rcases hown.2 with ⟨rfl,rfl⟩|⟨g,cap,cur,rfl,hbg,hg,hnc,hcm,hcs,htake⟩
 ·have hx:xs=[]:=List.eq_nil_of_length_eq_zero (by simpa using hown.1)
  subst hx
  obtain ⟨v2,w2,hr2,h4,_,_⟩:=run_append_own (P:=P) w w.heap.size t ty e i z size bytes ht hi hz hsize hby hzs hsz _ 0 [] (World.ownsRow_nil w _ e size) a m c news hl hnews h1 h63 hbytes (Nat.le_refl _)
  rw[hr] at hr2
  cases hr2
  exact fun k hk => .inr (h4.lt k hk).1
 ·by_cases hroom:n+m≤cap
  ·subst hsize
   have hfit:n*i.size+news.length≤cur.size:=by rw[hl,hcs,← Nat.add_mul];exact Nat.mul_le_mul_right _ hroom
   have hr2:=run_append_room (P:=P) w t ty e i ht hi g n cap cur hg a m c news hl hnews h1 hroom hfit
   rw[hr] at hr2
   cases hr2
   exact fun k hk => .inl hk
  ·subst hsize
   subst hby
   have hsmall:n+m≤9223372036854775807:=by simp only[maxLen] at h63;omega
   have holds:∀j u,xs[j]?=some u→w.cell? ((⟨g,0,none⟩:Addr).add j)=some u:=hown.cells (g:=g) rfl
   have hr2:=run_append_grow (P:=P) w t ty e i z ht hi hz ⟨g,0,none⟩ n cap xs hown.1 holds a m c news hl hnews (by omega) (by omega) (growslice_fits (by omega) hbytes)
   rw[hr] at hr2
   cases hr2
   intro k hk
   simp only[Value.ownBlock,Option.some.injEq] at hk
   exact .inr (by omega)
theorem wpList_append_own2 {P:Program} (w:World) {ops:Array Oper} {rest:List Oper} {o:Oper} {a:Act} {Q:Exit→Act→World→Prop} (hgd:o.guard=none) (s x:Operand) (t:TypeId)
  (ho:o.op = .call { callee := .builtin .append,args:=#[s,x],argTypes:=#[t,t] })
  (e:TypeId) (i:TypeInfo) (z:Value) (size bytes:Nat) (ht:P.underlying t=some (.slice e)) (hi:P.info? e=some i) (hz:i.zero=some z)
  (hsize:i.size=size) (hby:i.bytes=bytes) (hzs:z.cells.size=size) (hsz:0<size)
  (v:Value) (n:Nat) (xs:List Value) (hs:a.eval s=v) (hown:w.ownsRow 0 e size v n xs)
  (ad:Addr) (m c:Nat) (news:List Value) (hx:a.eval x = .slice (some ad) m c) (hl:news.length=m*size) (hnews:∀j u,news[j]?=some u→w.cell? (ad.add j)=some u) (h1:∀u∈news,u.oneCell'=true)
  (h63:n+m≤maxLen) (hbytes:(n+m)*bytes≤140737488355328)
  (h:∀v' w',w'.ownsRow 0 e size v' (n+m) (xs++news)→w.grownBy w' v.ownBlock→(∀k,v'.ownBlock=some k→v.ownBlock=some k∨w.heap.size≤k)→wpList P ops Q rest (a.put o.dst v') w'):wpList P ops Q (o :: rest) a w :=
 wpList_plain hgd fun _ hK=>by
  obtain ⟨v',w',hr,h2,h3,h4⟩:=run_append_own2 (P:=P) w t o.type e i z size bytes ht hi hz hsize hby hzs hsz v n xs hown ad m c news hl hnews h1 h63 hbytes
  unfold Oper.wp execOp
  simp only[ho,resolve,invoke,builtin,Sem.run_bind,Sem.run_pure,Result.andThen_ok,List.map_toArray,List.map_cons,List.map_nil,hs,hx,hr]
  exact hK _ _ (h v' w' h2 h3 h4)
end
section
open Go Go.RowKit
attribute [local go_sem] over_cell
def Stepped (w w':World) (b:Nat) (Im:Nat→Prop) (C:Cst) (vf vp:Value) (P:List Int):Prop :=
 ∃vp',SR w' b Im C vf vp' P∧Stays (Mut b vf vp) w w'∧∀k,vp'.ownBlock=some k→vp.ownBlock=some k∨w.heap.size≤k
end
section
open Go Go.RowKit
attribute [local go_sem] over_cell
end
section
open Go Go.RowKit
attribute [local go_sem] over_cell
theorem Stepped.refl {w:World} {b:Nat} {Im:Nat→Prop} {C:Cst} {vf vp:Value} {P:List Int} (h:SR w b Im C vf vp P):Stepped w w b Im C vf vp P :=
 ⟨vp,h,Stays.refl _ _,fun _ e => .inl e⟩
theorem Stepped.trans {w w1 w2:World} {b:Nat} {Im:Nat→Prop} {C:Cst} {vf vp vp1:Value} {P:List Int} (hs:Stays (Mut b vf vp) w w1) (hk:∀k,vp1.ownBlock=some k→vp.ownBlock=some k∨w.heap.size≤k) (h2:Stepped w1 w2 b Im C vf vp1 P):Stepped w w2 b Im C vf vp P:=by
 obtain ⟨vp2,hr,hs2,hk2⟩:=h2
 refine ⟨vp2,hr,hs.trans hs2 (fun i e=>?_),fun k e=>?_⟩
 ·rcases e with e|e|e
  ·exact .inl (.inl e)
  ·exact .inl (.inr (.inl e))
  ·exact (hk i e).imp (fun e => .inr (.inr e)) id
 ·rcases hk2 k e with e|e
  ·exact hk k e
  ·exact .inr (Nat.le_trans hs.size e)
theorem Stepped.below {w w1 w2:World} {b:Nat} {Im:Nat→Prop} {C:Cst} {vf vp:Value} {P:List Int} (h:Stepped w w1 b Im C vf vp P) (hb:Below w1.heap.size w1 w2):Stepped w w2 b Im C vf vp P:=by
 obtain ⟨vp1,hr,hs,hk⟩:=h
 exact ⟨vp1,hr.below hb,hs.trans (Below.stays hb (Mut b vf vp)) (fun i e => .inl e),hk⟩
end
end Go.Proofs.YtpkghjoippcjeaaGreatDoor
