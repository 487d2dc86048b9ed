/- Texts C9 to C12 of this proof, in one file. -/
import Derived.Test.YtaadpihbjhachaaGreatW02
namespace Go.Proofs.YtaadpihbjhachaaGreat
set_option maxRecDepth 100000
set_option maxHeartbeats 16000000
section
open Go Go.RowKit
attribute [local go_sem] zv
def outB (lo hi x:Int):Bool:=decide (x<lo)||decide (hi<x)
theorem from1_c (x lo hi:Int) (b1 b2:Nat) (w:World) (h1:w.cell? ⟨b1,0,none⟩=some (.int .i64 lo)) (h2:w.cell? ⟨b2,0,none⟩=some (.int .i64 hi)) :
  Calls Tryz.prog 221 #[.int .i64 x,.pointer (some ⟨b1,0,none⟩),.pointer (some ⟨b2,0,none⟩)] w fun e w'=>e = .returned (.bool (outB lo hi x))∧w=w':=by
 by_cases hx:x<lo
 ·have hd:decide (x<lo)=true:=by simpa using hx
  have hE:Hid (outB lo hi x=true):=by simp[Hid,outB,hx]
  go_enter Tryz.func221,Tryz.ntmps221
  go_wp2
  go_ret
  exact ⟨zN hE.out.symm,rfl⟩
 ·have hd:decide (x<lo)=false:=by simpa using hx
  have hE:Hid (outB lo hi x=decide (hi<x)):=by simp[Hid,outB,hx]
  go_enter Tryz.func221,Tryz.ntmps221
  go_wp2
  go_ret
  exact ⟨zN hE.out.symm,rfl⟩
theorem from1_fn:∀(args:Array Value) (w:World),Sem.run Tryz.prog (callFunc 221 args) w = .ok (.enter 221 args) w:=by
 intro args w;kernel_rfl
theorem from_c (a:Option Addr) (n c:Nat) (xs:List Int) (lo hi:Int) (w:World) (h:IC w a n xs) :
  Calls Tryz.prog 164 #[.int .i64 lo,.int .i64 hi,.slice a n c] w fun e w'=>e = .returned (.int .i64 (zn (qh (fun k=>outB lo hi (xs[k]?.getD 0)) n) 3))∧Below w.heap.size w w':=by
 have hB2:Below w.heap.size w ((w.alloc (.cells #[.int .i64 lo] 3)).alloc (.cells #[.int .i64 hi] 3)):=zg (zg (Below.refl _ _) _) _
 have hc1:((w.alloc (.cells #[.int .i64 lo] 3)).alloc (.cells #[.int .i64 hi] 3)).cell? ⟨w.heap.size,0,none⟩=some (.int .i64 lo):=by
  rw[((zF (W:=w.alloc (.cells #[.int .i64 lo] 3)) (zg (Below.refl _ _) _)).1 _ _ (by simp)),zq];rfl
 have hc2:((w.alloc (.cells #[.int .i64 lo] 3)).alloc (.cells #[.int .i64 hi] 3)).cell? ⟨w.heap.size+1,0,none⟩=some (.int .i64 hi):=by
  have:=zq (w.alloc (.cells #[.int .i64 lo] 3)) #[.int .i64 hi] 3 0
  rw[World.size_alloc] at this
  exact this.trans rfl
 have hs2:((w.alloc (.cells #[.int .i64 lo] 3)).alloc (.cells #[.int .i64 hi] 3)).heap.size=w.heap.size+2:=by simp
 have HI:=za (containsFuncI_c a n c xs 221 #[.pointer (some ⟨w.heap.size,0,none⟩),.pointer (some ⟨w.heap.size+1,0,none⟩)] (fun k=>outB lo hi (xs[k]?.getD 0)) _ (h.mono hB2) from1_fn
  (fun k _ w' hb=>(from1_c _ lo hi _ _ w' (((zF hb).1 _ _ (by omega)).trans hc1) (((zF hb).1 _ _ (by omega)).trans hc2)).mono (fun e w'' ⟨he,hw⟩=>⟨he,hw▸Below.refl _ _⟩)))
 have HB:=za hB2
 clear hc1 hc2 hs2 hB2
 generalize qh (fun k=>outB lo hi (xs[k]?.getD 0)) n=r at HI ⊢
 go_enter Tryz.func164,Tryz.ntmps164
 go_wp2_with (first|(go_at_call 86;refine HI.out.mono ?_;rintro e w1 ⟨rfl,hb1⟩)|(go_at_call 165;refine (lwhen_c _ _ _).mono ?_;rintro e w2 ⟨rfl,rfl⟩))
 go_ret
 exact ⟨rfl,zb HB.out hb1⟩
theorem checkLine1_c (a a':Option Addr) (n n' c c':Nat) (xs ys:List Int) (B:Nat) (w:World) (h:IC w a n xs) (h':IC w a' n' ys) (hc:w.cell? ⟨B,0,none⟩=some (.slice a' n' c')) :
  Calls Tryz.prog 222 #[.slice a n c,.pointer (some ⟨B,0,none⟩)] w fun e w'=>e = .returned (.bool (qH xs ys))∧Below w.heap.size w w':=by
 have HI:=za (equal_c a a' n n' c c' xs ys w h h')
 go_enter Tryz.func222,Tryz.ntmps222
 go_wp2_with (go_at_call 88;refine HI.out.mono ?_;rintro e w1 ⟨rfl,hb1⟩)
 go_ret
 exact ⟨rfl,hb1⟩
theorem checkLine1_fn:∀(args:Array Value) (w:World),Sem.run Tryz.prog (callFunc 222 args) w = .ok (.enter 222 args) w:=by
 intro args w;kernel_rfl
theorem anyP_line (ls:List (List Int)) (l:List Int):qh (fun k=>qH (ls[k]?.getD []) l) ls.length=jG ls l:=by
 rw[Bool.eq_iff_iff]
 simp only[qh,jG,List.any_eq_true,List.mem_range,qH,decide_eq_true_eq,List.contains_iff_mem]
 constructor
 ·rintro ⟨k,hk,e⟩
  rw[← e,List.getElem?_eq_getElem hk]
  simp
 ·intro hm
  obtain ⟨k,hk,e⟩:=List.getElem_of_mem hm
  exact ⟨k,hk,by rw[List.getElem?_eq_getElem hk];simp[e]⟩
theorem lineBad_first (cells:Int) (l:List Int) (k:Nat):jt cells l k=zz [zn (decide (l[k]?.getD 0<0)||decide (cells≤l[k]?.getD 0)) 10,zn (decide (0<k)&&decide (l[k]?.getD 0≤l[k - 1]?.getD 0)) 11]:=by
 unfold jt
 by_cases h1:l[k]?.getD 0<0
 ·rw[if_pos (.inl h1)];simp[h1,zn,zz]
 by_cases h2:cells≤l[k]?.getD 0
 ·rw[if_pos (.inr h2)];simp[h2,zn,zz]
 rw[if_neg (by omega)]
 by_cases h3:0<k∧l[k]?.getD 0≤l[k - 1]?.getD 0
 ·rw[if_pos h3];simp[h1,h2,h3.1,h3.2,zn,zz]
 ·rw[if_neg h3]
  have:(decide (0<k)&&decide (l[k]?.getD 0≤l[k - 1]?.getD 0))=false:=by
   by_cases a:0<k
   ·have b:¬l[k]?.getD 0≤l[k - 1]?.getD 0:=fun b=>h3 ⟨a,b⟩
    simp[b]
   ·simp[a]
  rw[this]
  simp[h1,h2,zn,zz]
theorem checkLine_c (a:Option Addr) (n c:Nat) (ls:List (List Int)) (cells:Int) (i:Nat) (w:World) (h:RC w a n ls) (hcap:n≤c) (hi:i<n) :
  Calls Tryz.prog 166 #[.agg #[.int .i64 cells,.slice a n c],.int .i64 i] w fun e w'=>e = .returned (.int .i64 (jF cells ls i))∧Below w.heap.size w w':=by
 have hm:=h.small
 obtain ⟨b,off,a1,n1,c1,rfl,hb,hc,hI,hic⟩:=(h.mono (zg (Below.refl _ _) (.cells #[.int .i64 cells,.slice a n c] 24))).2 i hi
 have hm1:=hI.small
 have hii:(i:Int)<(n:Int):=by omega
 have hi0:(0:Int)≤(i:Int):=by omega
 have hicc:i≤c:=by omega
 by_cases hz:n1=0
 ·subst hz
  have hv:Hid (jF cells ls i=12):=by unfold Hid jF;rw[if_pos hI.len]
  go_enter Tryz.func166,Tryz.ntmps166
  go_wp2
  go_ret
  exact ⟨zD hv.out.symm,zg (zg (Below.refl _ _) _) _⟩
 have hz':((n1:Int)==0)=false:=by simpa using hz
 go_enter Tryz.func166,Tryz.ntmps166
 go_wp2
 have hB2:Below w.heap.size w ((w.alloc (.cells #[.int .i64 cells,.slice (some ⟨b,off,none⟩) n c] 24)).alloc (.cells #[.slice a1 n1 c1] 25)):=zg (zg (Below.refl _ _) _) _
 have x0:((w.alloc (.cells #[.int .i64 cells,.slice (some ⟨b,off,none⟩) n c] 24)).alloc (.cells #[.slice a1 n1 c1] 25)).cell? ⟨w.heap.size,0,none⟩=some (.int .i64 cells):=by
  rw[((zF (W:=w.alloc (.cells #[.int .i64 cells,.slice (some ⟨b,off,none⟩) n c] 24)) (zg (Below.refl _ _) _)).1 _ _ (by simp)),zq];rfl
 have x1:((w.alloc (.cells #[.int .i64 cells,.slice (some ⟨b,off,none⟩) n c] 24)).alloc (.cells #[.slice a1 n1 c1] 25)).cell? ⟨w.heap.size,1,none⟩=some (.slice (some ⟨b,off,none⟩) n c):=by
  rw[((zF (W:=w.alloc (.cells #[.int .i64 cells,.slice (some ⟨b,off,none⟩) n c] 24)) (zg (Below.refl _ _) _)).1 _ _ (by simp)),zq];rfl
 have x2:((w.alloc (.cells #[.int .i64 cells,.slice (some ⟨b,off,none⟩) n c] 24)).alloc (.cells #[.slice a1 n1 c1] 25)).cell? ⟨w.heap.size+1,0,none⟩=some (.slice a1 n1 c1):=by
  have:=zq (w.alloc (.cells #[.int .i64 cells,.slice (some ⟨b,off,none⟩) n c] 24)) #[.slice a1 n1 c1] 25 0
  rw[World.size_alloc] at this
  exact this.trans rfl
 have hs:w.heap.size+2≤((w.alloc (.cells #[.int .i64 cells,.slice (some ⟨b,off,none⟩) n c] 24)).alloc (.cells #[.slice a1 n1 c1] 25)).heap.size:=by simp
 have hI2:=hI.mono (zg (Below.refl _ _) (.cells #[.slice a1 n1 c1] 25))
 have hR2:=h.mono hB2
 generalize ((w.alloc (.cells #[.int .i64 cells,.slice (some ⟨b,off,none⟩) n c] 24)).alloc (.cells #[.slice a1 n1 c1] 25))=W0 at hB2 x0 x1 x2 hs hI2 hR2 ⊢
 have X0:=za x0
 have X1:=za x1
 have X2:=za x2
 have hv:Hid (qQ (jt cells (ls[i]?.getD [])) n1≠0→jF cells ls i=qQ (jt cells (ls[i]?.getD [])) n1):=by
  intro he
  unfold jF;rw[if_neg (by rw[hI.len];exact hz),hI.len,if_pos he]
 clear x0 x1 x2 h hc hb hI
 go_loopw [6,7,8,19] (fun _ _ _ i2 wr=>∃k2:Nat,k2≤n1∧i2 = .int .i64 k2∧Hid (∀j,j<k2→jt cells (ls[i]?.getD []) j=0)∧Below W0.heap.size W0 wr) (fun _ _ _ i2 _=>n1 - (intOf i2).toNat)
 case atStart=>exact ⟨0,by omega,rfl,fun j hj=>absurd hj (by omega),Below.refl _ _⟩
 case round =>
  obtain ⟨k,hk,rfl,hn,hbr⟩:=hrel
  have hsr:w.heap.size+2≤wr.heap.size:=by have:=hbr.size;omega
  have hsr0:w.heap.size<wr.heap.size:=by omega
  have hsr1:w.heap.size+1<wr.heap.size:=by omega
  have y0:=((zF hbr).1 _ _ (show w.heap.size<W0.heap.size by omega)).trans X0.out
  have y1:=((zF hbr).1 _ _ (show w.heap.size<W0.heap.size by omega)).trans X1.out
  have y2:=((zF hbr).1 _ _ (show w.heap.size+1<W0.heap.size by omega)).trans X2.out
  by_cases hlt:k<n1
  ·obtain ⟨b2,off2,rfl,hb2,hc2⟩:=(hI2.mono hbr).2 k hlt
   have hli:(k:Int)<(n1:Int):=by omega
   have hl0:(0:Int)≤(k:Int):=by omega
   have hF:=za (lineBad_first cells (ls[i]?.getD []) k)
   by_cases g3:k=0
   ·have e3:decide (0<(k:Int))=false:=by simp;omega
    have e3':decide (0<k)=false:=by simp;omega
    clear g3
    by_cases g1:(ls[i]?.getD [])[k]?.getD 0<0
    ·have e1:decide ((ls[i]?.getD [])[k]?.getD 0<0)=true:=by simpa using g1
     have hG:Hid (jt cells (ls[i]?.getD []) k=zz [zn true 10,zn false 11]):=by
      have:=hF.out;rw[e3',e1] at this;exact this
     clear hF
     go_wp2_with (first|(go_at_call 165;refine (lwhen_c _ _ _).mono ?_;rintro e w2 ⟨rfl,rfl⟩)|(go_at_call 163;refine (lfirst_c _ _ _ _ _ (IC.new2 _ _ _ _)).mono ?_;rintro e w2 ⟨rfl,rfl⟩))
     ·have he:(zz [zn true 10,zn false 11] != 0)=true:=by assumption
      go_ret
      have h1:=zS hn.out hlt (by rw[hG.out];simpa using he)
      rw[hG.out] at h1
      exact ⟨zD (by rw[hv.out (by rw[h1];simpa using he),h1]),zg (hB2.trans (hbr.mono (by omega))) _⟩
    ·have e1:decide ((ls[i]?.getD [])[k]?.getD 0<0)=false:=by simpa using g1
     have hG:Hid (jt cells (ls[i]?.getD []) k=zz [zn (decide (cells≤(ls[i]?.getD [])[k]?.getD 0)) 10,zn false 11]):=by
      have:=hF.out;rw[e3',e1] at this;exact this
     clear hF
     go_wp2_with (first|(go_at_call 165;refine (lwhen_c _ _ _).mono ?_;rintro e w2 ⟨rfl,rfl⟩)|(go_at_call 163;refine (lfirst_c _ _ _ _ _ (IC.new2 _ _ _ _)).mono ?_;rintro e w2 ⟨rfl,rfl⟩))
     ·have he:(zz [zn (decide (cells≤(ls[i]?.getD [])[k]?.getD 0)) 10,zn false 11] != 0)=true:=by assumption
      go_ret
      have h1:=zS hn.out hlt (by rw[hG.out];simpa using he)
      rw[hG.out] at h1
      exact ⟨zD (by rw[hv.out (by rw[h1];simpa using he),h1]),zg (hB2.trans (hbr.mono (by omega))) _⟩
     ·have he:(zz [zn (decide (cells≤(ls[i]?.getD [])[k]?.getD 0)) 10,zn false 11] != 0)=false:=by assumption
      go_roundw
      case rel=>exact ⟨k+1,by omega,by go_num,jj hn.out (by rw[hG.out];simpa using he),zg hbr _⟩
      case measure=>simp[intOf];omega
   ·have e3:decide (0<(k:Int))=true:=by simp;omega
    have e3':decide (0<k)=true:=by simp;omega
    have gn:(0:Int)≤(k:Int) - 1:=by omega
    have gl:(k:Int) - 1<(n1:Int):=by omega
    have hcp':wr.cell? ⟨b2,off2+(k - 1),none⟩=some (.int .i64 ((ls[i]?.getD [])[k - 1]?.getD 0)):=by
     obtain ⟨b3,off3,e,_,hc3⟩:=(hI2.mono hbr).2 (k - 1) (by omega)
     simp only[Option.some.injEq,Addr.mk.injEq,and_true] at e
     obtain ⟨rfl,rfl⟩:=e
     exact hc3
    clear g3
    by_cases g1:(ls[i]?.getD [])[k]?.getD 0<0
    ·have e1:decide ((ls[i]?.getD [])[k]?.getD 0<0)=true:=by simpa using g1
     have hG:Hid (jt cells (ls[i]?.getD []) k=zz [zn true 10,zn (decide ((ls[i]?.getD [])[k]?.getD 0≤(ls[i]?.getD [])[k - 1]?.getD 0)) 11]):=by
      have:=hF.out;rw[e3',e1] at this;exact this
     clear hF
     go_wp2_with (first|(go_at_call 165;refine (lwhen_c _ _ _).mono ?_;rintro e w2 ⟨rfl,rfl⟩)|(go_at_call 163;refine (lfirst_c _ _ _ _ _ (IC.new2 _ _ _ _)).mono ?_;rintro e w2 ⟨rfl,rfl⟩))
     ·have he:(zz [zn true 10,zn (decide ((ls[i]?.getD [])[k]?.getD 0≤(ls[i]?.getD [])[k - 1]?.getD 0)) 11] != 0)=true:=by assumption
      go_ret
      have h1:=zS hn.out hlt (by rw[hG.out];simpa using he)
      rw[hG.out] at h1
      exact ⟨zD (by rw[hv.out (by rw[h1];simpa using he),h1]),zg (hB2.trans (hbr.mono (by omega))) _⟩
    ·have e1:decide ((ls[i]?.getD [])[k]?.getD 0<0)=false:=by simpa using g1
     have hG:Hid (jt cells (ls[i]?.getD []) k=zz [zn (decide (cells≤(ls[i]?.getD [])[k]?.getD 0)) 10,zn (decide ((ls[i]?.getD [])[k]?.getD 0≤(ls[i]?.getD [])[k - 1]?.getD 0)) 11]):=by
      have:=hF.out;rw[e3',e1] at this;exact this
     clear hF
     go_wp2_with (first|(go_at_call 165;refine (lwhen_c _ _ _).mono ?_;rintro e w2 ⟨rfl,rfl⟩)|(go_at_call 163;refine (lfirst_c _ _ _ _ _ (IC.new2 _ _ _ _)).mono ?_;rintro e w2 ⟨rfl,rfl⟩))
     ·have he:(zz [zn (decide (cells≤(ls[i]?.getD [])[k]?.getD 0)) 10,zn (decide ((ls[i]?.getD [])[k]?.getD 0≤(ls[i]?.getD [])[k - 1]?.getD 0)) 11] != 0)=true:=by assumption
      go_ret
      have h1:=zS hn.out hlt (by rw[hG.out];simpa using he)
      rw[hG.out] at h1
      exact ⟨zD (by rw[hv.out (by rw[h1];simpa using he),h1]),zg (hB2.trans (hbr.mono (by omega))) _⟩
     ·have he:(zz [zn (decide (cells≤(ls[i]?.getD [])[k]?.getD 0)) 10,zn (decide ((ls[i]?.getD [])[k]?.getD 0≤(ls[i]?.getD [])[k - 1]?.getD 0)) 11] != 0)=false:=by assumption
      go_roundw
      case rel=>exact ⟨k+1,by omega,by go_num,jj hn.out (by rw[hG.out];simpa using he),zg hbr _⟩
      case measure=>simp[intOf];omega
  ·have e:k=n1:=by omega
   subst e
   have he:=za (ju hn.out)
   have hw:Hid (jF cells ls i=zn (jG (ls.take i) (ls[i]?.getD [])) 9):=by
    unfold Hid jF zn;rw[if_neg (by rw[hI2.len];exact hz),hI2.len,if_neg (by rw[he.out];omega)]
   have hR3:=(hR2.mono hbr).take i (by omega)
   have hE:Hid (qh (fun j=>qH ((ls.take i)[j]?.getD []) (ls[i]?.getD [])) i=jG (ls.take i) (ls[i]?.getD [])):=by
    have:=anyP_line (ls.take i) (ls[i]?.getD [])
    rw[hR3.len] at this
    exact this
   have HI:=za (ka _ i c _ 222 #[.pointer (some ⟨w.heap.size+1,0,none⟩)] (fun j=>qH ((ls.take i)[j]?.getD []) (ls[i]?.getD [])) wr hR3 checkLine1_fn
    (fun j _ w' a3 n3 c3 hb3 hi3 _=>checkLine1_c a3 a1 n3 k c3 c1 _ _ _ w' hi3 ((hI2.mono hbr).mono hb3) (((zF hb3).1 _ _ hsr1).trans y2)))
   rw[hE.out] at HI
   clear hE he hR3
   generalize jG (ls.take i) (ls[i]?.getD [])=r at hw HI
   go_wp2_with (first|(go_at_call 137;refine HI.out.mono ?_;rintro e w1 ⟨rfl,hb1⟩)|(go_at_call 165;refine (lwhen_c _ _ _).mono ?_;rintro e w2 ⟨rfl,rfl⟩))
   go_ret
   exact ⟨zD hw.out.symm,(hB2.trans (hbr.mono (by omega))).trans (hb1.mono (by omega))⟩
end
section
open Go Go.RowKit
attribute [local go_sem] zv
theorem sys_first (cells:Int) (n:Nat):zz [zn (qh (fun k=>outB 1 256 ([cells][k]?.getD 0)) 1) 3,zn (decide (128<(n:Int))) 5]=(if cells<1∨cells>256 then 3 else if n>128 then 5 else 0):=by
 have e:qh (fun k=>outB 1 256 ([cells][k]?.getD 0)) 1=outB 1 256 cells:=by simp[qh,List.range_succ]
 rw[e]
 by_cases h1:cells<1∨cells>256
 ·rw[if_pos h1]
  have:outB 1 256 cells=true:=by
   rcases h1 with h|h
   ·simp[outB,h]
   ·have h':256<cells:=h
    simp[outB,h']
  simp[this,zn,zz]
 ·rw[if_neg h1]
  have:outB 1 256 cells=false:=by
   have a:¬cells<1:=fun h=>h1 (.inl h)
   have b:¬256<cells:=fun h=>h1 (.inr h)
   simp[outB,a,b]
  by_cases h2:n>128
  ·have h2':(128:Int)<n:=by omega
   simp[this,zn,zz,h2,h2']
  ·have h2':¬(128:Int)<n:=by omega
   simp[this,zn,zz,h2,h2']
theorem sys_c (a:Option Addr) (n c:Nat) (ls:List (List Int)) (cells:Int) (w:World) (h:RC w a n ls) (hcap:n≤c) :
  Calls Tryz.prog 94 #[.agg #[.int .i64 cells,.slice a n c]] w fun e w'=>e = .returned (.int .i64 (zX cells ls))∧Below w.heap.size w w':=by
 have hm:=h.small
 have hF:Hid (zX cells ls=if zz [zn (qh (fun k=>outB 1 256 ([cells][k]?.getD 0)) 1) 3,zn (decide (128<(n:Int))) 5]≠0 then zz [zn (qh (fun k=>outB 1 256 ([cells][k]?.getD 0)) 1) 3,zn (decide (128<(n:Int))) 5] else qQ (jF cells ls) n):=by
  unfold Hid
  rw[sys_first,zX,h.len]
  by_cases h1:cells<1∨cells>256
  ·simp[h1]
  ·by_cases h2:n>128
   ·simp[h1,h2]
   ·simp[h1,h2]
 go_enter Tryz.func94,Tryz.ntmps94
 go_wp2
 have hsz:w.heap.size<(w.alloc (.cells #[.int .i64 cells,.slice a n c] 24)).heap.size:=by simp
 have hB:Below w.heap.size w (w.alloc (.cells #[.int .i64 cells,.slice a n c] 24)):=(Below.refl _ _).alloc (Nat.le_refl _) _
 have x0:(w.alloc (.cells #[.int .i64 cells,.slice a n c] 24)).cell? ⟨w.heap.size,0,none⟩=some (.int .i64 cells):=(zq w #[.int .i64 cells,.slice a n c] 24 0).trans rfl
 have x1:(w.alloc (.cells #[.int .i64 cells,.slice a n c] 24)).cell? ⟨w.heap.size,1,none⟩=some (.slice a n c):=(zq w #[.int .i64 cells,.slice a n c] 24 1).trans rfl
 generalize (w.alloc (.cells #[.int .i64 cells,.slice a n c] 24))=W0 at hsz hB x0 x1 ⊢
 have h0:=h.mono hB
 refine zk (fun w'=>∃u,w'=over (W0) u) [11,10,9,8] [(0,0),(0,1),(0,4),(0,5),(0,6),(0,7),(1,2),(1,3),(2,8),(2,9),(2,10),(2,11)] (by kernel_rfl) (by kernel_rfl) (by exact ⟨_,zi (by repeat (first|assumption|exact Below.refl _ _|refine zd ?_|refine zg ?_ _|refine zb ?_ (by assumption)))⟩) ?_
 dsimp only[zt,zG]
 repeat (first|(refine zu rfl (fun K hK=>?_);go_big_quiet_op;refine hK _ ?_;clear hK K)|(refine zp rfl rfl (fun K hK=>?_);go_big_quiet_op;refine hK _ ?_;clear hK K)|(refine zE ?_;go_wp2_with (first|(go_at_call 164;refine (from_c _ _ _ [cells] _ _ _ ((IC.new1 _ _ _).mono (zd (Below.refl _ _)))).mono ?_;rintro e w1 ⟨rfl,hb1⟩)|(go_at_call 165;refine (lwhen_c _ _ _).mono ?_;rintro e w2 ⟨rfl,rfl⟩)|(go_at_call 163;refine (lfirst_c _ _ _ _ _ (IC.new2 _ _ _ _)).mono ?_;rintro e w2 ⟨rfl,rfl⟩));refine ⟨?_,?_⟩;focus (exact ⟨_,zi (by repeat (first|assumption|exact Below.refl _ _|refine zd ?_|refine zg ?_ _|refine zb ?_ (by assumption)))⟩)))
 refine zA _ _ _ rfl ?_
 dsimp only[List.map]
 go_wp2_with (first|(go_at_call 164;refine (from_c _ _ _ [cells] _ _ _ ((IC.new1 _ _ _).mono (zd (Below.refl _ _)))).mono ?_;rintro e w1 ⟨rfl,hb1⟩)|(go_at_call 165;refine (lwhen_c _ _ _).mono ?_;rintro e w2 ⟨rfl,rfl⟩)|(go_at_call 163;refine (lfirst_c _ _ _ _ _ (IC.new2 _ _ _ _)).mono ?_;rintro e w2 ⟨rfl,rfl⟩))
 refine NoPanic.normal ?_
 have hb2:Below W0.heap.size W0 (w1.alloc (.cells #[.int .i64 (zn (qh (fun k=>outB 1 256 ([cells][k]?.getD 0)) 1) 3),.int .i64 (zn (decide (128<(n:Int))) 5)] 34)):=zg (zb (zd (zg (Below.refl _ _) _)) hb1) _
 generalize (w1.alloc (.cells #[.int .i64 (zn (qh (fun k=>outB 1 256 ([cells][k]?.getD 0)) 1) 3),.int .i64 (zn (decide (128<(n:Int))) 5)] 34))=w3 at hb2 ⊢
 clear hb1
 generalize zz [zn (qh (fun k=>outB 1 256 ([cells][k]?.getD 0)) 1) 3,zn (decide (128<(n:Int))) 5]=v at hF ⊢
 have hB3:Below w.heap.size w w3:=hB.trans (hb2.mono (by omega))
 have h3:=h0.mono hb2
 have hsz3:w.heap.size<w3.heap.size:=by have:=hb2.size;omega
 have y0:=((zF hb2).1 _ _ hsz).trans x0
 have y1:=((zF hb2).1 _ _ hsz).trans x1
 clear x0 x1
 by_cases hv:v=0
 case neg =>
  have hv':(v != 0)=true:=by simpa using hv
  have hV:=za hv
  clear hv
  go_wp2
  go_ret
  exact ⟨zD (by rw[hF.out,if_pos hV.out]),hB3⟩
 have hv':(v != 0)=false:=by simpa using hv
 have hV:=za hv
 clear hv
 go_wp2
 have Y0:=za y0
 have Y1:=za y1
 clear y0 y1
 go_loopw [4,5,23] (fun _ _ i wr=>∃k:Nat,k≤n∧i = .int .i64 k∧Hid (∀j,j<k→jF cells ls j=0)∧Below w3.heap.size w3 wr) (fun _ _ i _=>n - (intOf i).toNat)
 case atStart=>exact ⟨0,by omega,rfl,fun j hj=>absurd hj (by omega),Below.refl _ _⟩
 case round =>
  obtain ⟨k,hk,rfl,hn,hbr⟩:=hrel
  have z0:=((zF hbr).1 _ _ hsz3).trans Y0.out
  have z1:=((zF hbr).1 _ _ hsz3).trans Y1.out
  by_cases hlt:k<n
  ·have HI:=za (checkLine_c a n c ls cells k wr (h3.mono hbr) hcap hlt)
   go_wp2_with (go_at_call 166;refine HI.out.mono ?_;rintro e w4 ⟨rfl,hb4⟩)
   ·have he:(jF cells ls k != 0)=true:=by assumption
    go_ret
    have h1:=zS hn.out hlt (by simpa using he)
    exact ⟨zD (by rw[hF.out,if_neg (by rw[hV.out];simp),h1]),(hB3.trans (hbr.mono (by omega))).trans (hb4.mono (by have:=hbr.size;omega))⟩
   ·have he:(jF cells ls k != 0)=false:=by assumption
    go_roundw
    case rel=>exact ⟨k+1,by omega,by go_num,jj hn.out (by simpa using he),hbr.trans (hb4.mono hbr.size)⟩
    case measure=>simp[intOf];omega
  ·have e:k=n:=by omega
   subst e
   go_wp2
   go_ret
   exact ⟨zD (by rw[hF.out,if_neg (by rw[hV.out];simp),ju hn.out]),hB3.trans (hbr.mono (by omega))⟩
theorem task_first (e:Int) (sum cells:Int) (n:Nat) (ls:List (List Int)) (g:List Int) (hl:g.length=n) (he:e=zX cells ls) :
  zx cells ls sum g=if zz [e,zn (decide (sum<1)||decide (999999999<sum)) 3,zn ((n:Int) != cells) 2]≠0 then zz [e,zn (decide (sum<1)||decide (999999999<sum)) 3,zn ((n:Int) != cells) 2] else qQ (jn cells g) n:=by
 subst he
 unfold zx
 by_cases h1:zX cells ls=0
 ·rw[if_neg (by simp[h1])]
  by_cases h2:sum<1∨sum>999999999
  ·rw[if_pos h2]
   have:(decide (sum<1)||decide (999999999<sum))=true:=by
    rcases h2 with h|h
    ·simp[h]
    ·have h':999999999<sum:=h
     simp[h']
   simp[h1,this,zn,zz]
  ·rw[if_neg h2]
   have a:¬sum<1:=fun h=>h2 (.inl h)
   have b:¬999999999<sum:=fun h=>h2 (.inr h)
   by_cases h3:(n:Int)=cells
   ·rw[if_neg (by rw[hl];simpa using h3),hl]
    simp[h1,a,b,h3,zn,zz]
   ·rw[if_pos (by rw[hl];exact h3)]
    simp[h1,a,b,h3,zn,zz]
 ·rw[if_pos h1]
  simp[zz,h1]
theorem given_first (cells:Int) (g:List Int) (k:Nat):jn cells g k=zz [zn (decide (g[k]?.getD 0<0)||decide (cells<g[k]?.getD 0)) 3,zn (decide (0<g[k]?.getD 0)&&zY (g.take k) (g[k]?.getD 0)) 9]:=by
 unfold jn
 by_cases h1:g[k]?.getD 0<0
 ·rw[if_pos (.inl h1)];simp[h1,zn,zz]
 by_cases h2:cells<g[k]?.getD 0
 ·rw[if_pos (.inr h2)];simp[h2,zn,zz]
 rw[if_neg (by omega)]
 by_cases h3:0<g[k]?.getD 0
 ·by_cases h4:zY (g.take k) (g[k]?.getD 0)=true
  ·simp[h1,h2,h3,h4,zn,zz]
  ·simp only[Bool.not_eq_true] at h4
   simp[h1,h2,h4,zn,zz]
 ·simp[h1,h2,h3,zn,zz]
end
section
open Go Go.RowKit
attribute [local go_sem] zv
theorem task_c (a:Option Addr) (n c:Nat) (ls:List (List Int)) (cells sum:Int) (a':Option Addr) (n' c':Nat) (g:List Int) (w:World) (h:RC w a n ls) (hcap:n≤c) (h':IC w a' n' g) (hcap':n'≤c') :
  Calls Tryz.prog 56 #[.agg #[.int .i64 cells,.slice a n c,.int .i64 sum,.slice a' n' c']] w fun e w'=>e = .returned (.int .i64 (zx cells ls sum g))∧Below w.heap.size w w':=by
 have hm:=h.small
 have hm':=h'.small
 have hF0:=task_first (zX cells ls) sum cells n' ls g h'.len rfl
 by_cases hs1:sum<1
 ·have ed:decide (sum<1)=true:=by simpa using hs1
  have hF:Hid (zx cells ls sum g=if zz [zX cells ls,zn true 3,zn ((n':Int) != cells) 2]≠0 then zz [zX cells ls,zn true 3,zn ((n':Int) != cells) 2] else qQ (jn cells g) n'):=by
   rw[ed] at hF0;exact hF0
  clear hF0 hs1
  go_enter Tryz.func56,Tryz.ntmps56
  go_wp2
  have hsz:w.heap.size<(w.alloc (.cells #[.int .i64 cells,.slice a n c,.int .i64 sum,.slice a' n' c'] 27)).heap.size:=by simp
  have hB:Below w.heap.size w (w.alloc (.cells #[.int .i64 cells,.slice a n c,.int .i64 sum,.slice a' n' c'] 27)):=(Below.refl _ _).alloc (Nat.le_refl _) _
  have x0:(w.alloc (.cells #[.int .i64 cells,.slice a n c,.int .i64 sum,.slice a' n' c'] 27)).cell? ⟨w.heap.size,0,none⟩=some (.int .i64 cells):=(zq w #[.int .i64 cells,.slice a n c,.int .i64 sum,.slice a' n' c'] 27 0).trans rfl
  have x1:(w.alloc (.cells #[.int .i64 cells,.slice a n c,.int .i64 sum,.slice a' n' c'] 27)).cell? ⟨w.heap.size,1,none⟩=some (.slice a n c):=(zq w #[.int .i64 cells,.slice a n c,.int .i64 sum,.slice a' n' c'] 27 1).trans rfl
  have x2:(w.alloc (.cells #[.int .i64 cells,.slice a n c,.int .i64 sum,.slice a' n' c'] 27)).cell? ⟨w.heap.size,2,none⟩=some (.int .i64 sum):=(zq w #[.int .i64 cells,.slice a n c,.int .i64 sum,.slice a' n' c'] 27 2).trans rfl
  have x3:(w.alloc (.cells #[.int .i64 cells,.slice a n c,.int .i64 sum,.slice a' n' c'] 27)).cell? ⟨w.heap.size,3,none⟩=some (.slice a' n' c'):=(zq w #[.int .i64 cells,.slice a n c,.int .i64 sum,.slice a' n' c'] 27 3).trans rfl
  generalize (w.alloc (.cells #[.int .i64 cells,.slice a n c,.int .i64 sum,.slice a' n' c'] 27))=W0 at hsz hB x0 x1 x2 x3 ⊢
  have h0:=h.mono hB
  have h0':=h'.mono hB
  refine zk (fun w'=>∃u,w'=over (W0) u) [20,19,18,17] [(0,0),(0,1),(0,3),(0,4),(0,5),(0,12),(0,13),(0,14),(0,15),(0,16),(1,2),(0,6),(0,7),(0,8),(0,9),(0,10),(1,11),(2,17),(2,18),(2,19),(2,20)] (by kernel_rfl) (by kernel_rfl) (by exact ⟨_,zi (by repeat (first|assumption|exact Below.refl _ _|refine zd ?_|refine zg ?_ _|refine zb ?_ (by assumption)))⟩) ?_
  dsimp only[zt,zG]
  repeat (first|(refine zu rfl (fun K hK=>?_);go_big_quiet_op;refine hK _ ?_;clear hK K)|(refine zp rfl rfl (fun K hK=>?_);go_big_quiet_op;refine hK _ ?_;clear hK K)|(refine zE ?_;go_wp2_with (first|(go_at_call 94;refine (sys_c _ _ _ _ _ _ (h0.mono (zd (Below.refl _ _))) hcap).mono ?_;rintro e w1 ⟨rfl,hb1⟩)|(go_at_call 66;refine (zO _ _ _).mono ?_;rintro e w2 ⟨rfl,rfl⟩)|(go_at_call 65;refine (zK _ _ _ _ _ (IC.new3 _ _ _ _ _)).mono ?_;rintro e w2 ⟨rfl,rfl⟩));refine ⟨?_,?_⟩;focus (exact ⟨_,zi (by repeat (first|assumption|exact Below.refl _ _|refine zd ?_|refine zg ?_ _|refine zb ?_ (by assumption)))⟩)))
  refine zA _ _ _ rfl ?_
  dsimp only[List.map]
  go_wp2_with (first|(go_at_call 94;refine (sys_c _ _ _ _ _ _ (h0.mono (zd (Below.refl _ _))) hcap).mono ?_;rintro e w1 ⟨rfl,hb1⟩)|(go_at_call 66;refine (zO _ _ _).mono ?_;rintro e w2 ⟨rfl,rfl⟩)|(go_at_call 65;refine (zK _ _ _ _ _ (IC.new3 _ _ _ _ _)).mono ?_;rintro e w2 ⟨rfl,rfl⟩))
  refine NoPanic.normal ?_
  have hb2:Below W0.heap.size W0 (w1.alloc (.cells #[.int .i64 (zX cells ls),.int .i64 (zn true 3),.int .i64 (zn ((n':Int) != cells) 2)] 34)):=zg (zb (zd (Below.refl _ _)) hb1) _
  generalize (w1.alloc (.cells #[.int .i64 (zX cells ls),.int .i64 (zn true 3),.int .i64 (zn ((n':Int) != cells) 2)] 34))=w3 at hb2 ⊢
  clear hb1
  generalize zz [zX cells ls,zn true 3,zn ((n':Int) != cells) 2]=v at hF ⊢
  have hB3:Below w.heap.size w w3:=hB.trans (hb2.mono (by omega))
  have h3':=h0'.mono hb2
  have hsz3:w.heap.size<w3.heap.size:=by have:=hb2.size;omega
  have y0:=((zF hb2).1 _ _ hsz).trans x0
  have y3:=((zF hb2).1 _ _ hsz).trans x3
  clear x0 x1 x2 x3
  by_cases hv:v=0
  case neg =>
   have hv':(v != 0)=true:=by simpa using hv
   have hV:=za hv
   clear hv
   go_wp2
   go_ret
   exact ⟨zD (by rw[hF.out,if_pos hV.out]),hB3⟩
  have hv':(v != 0)=false:=by simpa using hv
  have hV:=za hv
  clear hv
  go_wp2
  have Y0:=za y0
  have Y3:=za y3
  clear y0 y3
  go_loopw [5,6,7,37] (fun _ _ _ i wr=>∃k:Nat,k≤n'∧i = .int .i64 k∧Hid (∀j,j<k→jn cells g j=0)∧Below w3.heap.size w3 wr) (fun _ _ _ i _=>n' - (intOf i).toNat)
  case atStart=>exact ⟨0,by omega,rfl,fun j hj=>absurd hj (by omega),Below.refl _ _⟩
  case round =>
   obtain ⟨k,hk,rfl,hn,hbr⟩:=hrel
   have hszr:w.heap.size<wr.heap.size:=by have:=hbr.size;omega
   have z0:=((zF hbr).1 _ _ hsz3).trans Y0.out
   have z3:=((zF hbr).1 _ _ hsz3).trans Y3.out
   by_cases hlt:k<n'
   ·obtain ⟨b,off,rfl,hb,hc⟩:=(h3'.mono hbr).2 k hlt
    have hli:(k:Int)<(n':Int):=by omega
    have hl0:(0:Int)≤(k:Int):=by omega
    have hkc:k≤c':=by omega
    have hit:=(h3'.mono hbr).take k hk
    have hG:=za (given_first cells g k)
    by_cases g1:g[k]?.getD 0<0
    ·have e1:decide (g[k]?.getD 0<0)=true:=by simpa using g1
     have e2:decide (0<g[k]?.getD 0)=false:=by simp;omega
     have hG2:Hid (jn cells g k=zz [zn true 3,zn false 9]):=by
      have:=hG.out;rw[e1,e2] at this;exact this
     clear hG
     by_cases hq:zz [zn true 3,zn false 9]=0
     ·have hq':(zz [zn true 3,zn false 9] != 0)=false:=by simpa using hq
      have hQ:=za hq
      clear hq
      go_wp2_with (first|(go_at_call 134;refine (jw _ _ _ _ _ _ hit).mono ?_;rintro e w2 ⟨rfl,rfl⟩)|(go_at_call 66;refine (zO _ _ _).mono ?_;rintro e w2 ⟨rfl,rfl⟩)|(go_at_call 65;refine (zK _ _ _ _ _ (IC.new2 _ _ _ _)).mono ?_;rintro e w2 ⟨rfl,rfl⟩))
      go_roundw
      case rel=>exact ⟨k+1,by omega,by go_num,jj hn.out (by rw[hG2.out];exact hQ.out),zg hbr _⟩
      case measure=>simp[intOf];omega
     ·have hq':(zz [zn true 3,zn false 9] != 0)=true:=by simpa using hq
      have hQ:=za hq
      clear hq
      go_wp2_with (first|(go_at_call 134;refine (jw _ _ _ _ _ _ hit).mono ?_;rintro e w2 ⟨rfl,rfl⟩)|(go_at_call 66;refine (zO _ _ _).mono ?_;rintro e w2 ⟨rfl,rfl⟩)|(go_at_call 65;refine (zK _ _ _ _ _ (IC.new2 _ _ _ _)).mono ?_;rintro e w2 ⟨rfl,rfl⟩))
      go_ret
      have h1:=zS hn.out hlt (by rw[hG2.out];exact hQ.out)
      exact ⟨zD (by rw[hF.out,if_neg (by rw[hV.out];simp),h1,hG2.out]),zg (hB3.trans (hbr.mono (by omega))) _⟩
    ·have e1:decide (g[k]?.getD 0<0)=false:=by simpa using g1
     by_cases g2:0<g[k]?.getD 0
     ·have e2:decide (0<g[k]?.getD 0)=true:=by simpa using g2
      have hG2:Hid (jn cells g k=zz [zn (decide (cells<g[k]?.getD 0)) 3,zn (zY (g.take k) (g[k]?.getD 0)) 9]):=by
       have:=hG.out;rw[e1,e2] at this;exact this
      clear hG
      by_cases hq:zz [zn (decide (cells<g[k]?.getD 0)) 3,zn (zY (g.take k) (g[k]?.getD 0)) 9]=0
      ·have hq':(zz [zn (decide (cells<g[k]?.getD 0)) 3,zn (zY (g.take k) (g[k]?.getD 0)) 9] != 0)=false:=by simpa using hq
       have hQ:=za hq
       clear hq
       go_wp2_with (first|(go_at_call 134;refine (jw _ _ _ _ _ _ hit).mono ?_;rintro e w2 ⟨rfl,rfl⟩)|(go_at_call 66;refine (zO _ _ _).mono ?_;rintro e w2 ⟨rfl,rfl⟩)|(go_at_call 65;refine (zK _ _ _ _ _ (IC.new2 _ _ _ _)).mono ?_;rintro e w2 ⟨rfl,rfl⟩))
       go_roundw
       case rel=>exact ⟨k+1,by omega,by go_num,jj hn.out (by rw[hG2.out];exact hQ.out),zg hbr _⟩
       case measure=>simp[intOf];omega
      ·have hq':(zz [zn (decide (cells<g[k]?.getD 0)) 3,zn (zY (g.take k) (g[k]?.getD 0)) 9] != 0)=true:=by simpa using hq
       have hQ:=za hq
       clear hq
       go_wp2_with (first|(go_at_call 134;refine (jw _ _ _ _ _ _ hit).mono ?_;rintro e w2 ⟨rfl,rfl⟩)|(go_at_call 66;refine (zO _ _ _).mono ?_;rintro e w2 ⟨rfl,rfl⟩)|(go_at_call 65;refine (zK _ _ _ _ _ (IC.new2 _ _ _ _)).mono ?_;rintro e w2 ⟨rfl,rfl⟩))
       go_ret
       have h1:=zS hn.out hlt (by rw[hG2.out];exact hQ.out)
       exact ⟨zD (by rw[hF.out,if_neg (by rw[hV.out];simp),h1,hG2.out]),zg (hB3.trans (hbr.mono (by omega))) _⟩
     ·have e2:decide (0<g[k]?.getD 0)=false:=by simpa using g2
      have hG2:Hid (jn cells g k=zz [zn (decide (cells<g[k]?.getD 0)) 3,zn false 9]):=by
       have:=hG.out;rw[e1,e2] at this;exact this
      clear hG
      by_cases hq:zz [zn (decide (cells<g[k]?.getD 0)) 3,zn false 9]=0
      ·have hq':(zz [zn (decide (cells<g[k]?.getD 0)) 3,zn false 9] != 0)=false:=by simpa using hq
       have hQ:=za hq
       clear hq
       go_wp2_with (first|(go_at_call 134;refine (jw _ _ _ _ _ _ hit).mono ?_;rintro e w2 ⟨rfl,rfl⟩)|(go_at_call 66;refine (zO _ _ _).mono ?_;rintro e w2 ⟨rfl,rfl⟩)|(go_at_call 65;refine (zK _ _ _ _ _ (IC.new2 _ _ _ _)).mono ?_;rintro e w2 ⟨rfl,rfl⟩))
       go_roundw
       case rel=>exact ⟨k+1,by omega,by go_num,jj hn.out (by rw[hG2.out];exact hQ.out),zg hbr _⟩
       case measure=>simp[intOf];omega
      ·have hq':(zz [zn (decide (cells<g[k]?.getD 0)) 3,zn false 9] != 0)=true:=by simpa using hq
       have hQ:=za hq
       clear hq
       go_wp2_with (first|(go_at_call 134;refine (jw _ _ _ _ _ _ hit).mono ?_;rintro e w2 ⟨rfl,rfl⟩)|(go_at_call 66;refine (zO _ _ _).mono ?_;rintro e w2 ⟨rfl,rfl⟩)|(go_at_call 65;refine (zK _ _ _ _ _ (IC.new2 _ _ _ _)).mono ?_;rintro e w2 ⟨rfl,rfl⟩))
       go_ret
       have h1:=zS hn.out hlt (by rw[hG2.out];exact hQ.out)
       exact ⟨zD (by rw[hF.out,if_neg (by rw[hV.out];simp),h1,hG2.out]),zg (hB3.trans (hbr.mono (by omega))) _⟩
   ·have e:k=n':=by omega
    subst e
    go_wp2
    go_ret
    exact ⟨zD (by rw[hF.out,if_neg (by rw[hV.out];simp),ju hn.out]),hB3.trans (hbr.mono (by omega))⟩
 ·have ed:decide (sum<1)=false:=by simpa using hs1
  have hF:Hid (zx cells ls sum g=if zz [zX cells ls,zn (decide (999999999<sum)) 3,zn ((n':Int) != cells) 2]≠0 then zz [zX cells ls,zn (decide (999999999<sum)) 3,zn ((n':Int) != cells) 2] else qQ (jn cells g) n'):=by
   rw[ed] at hF0;exact hF0
  clear hF0 hs1
  go_enter Tryz.func56,Tryz.ntmps56
  go_wp2
  have hsz:w.heap.size<(w.alloc (.cells #[.int .i64 cells,.slice a n c,.int .i64 sum,.slice a' n' c'] 27)).heap.size:=by simp
  have hB:Below w.heap.size w (w.alloc (.cells #[.int .i64 cells,.slice a n c,.int .i64 sum,.slice a' n' c'] 27)):=(Below.refl _ _).alloc (Nat.le_refl _) _
  have x0:(w.alloc (.cells #[.int .i64 cells,.slice a n c,.int .i64 sum,.slice a' n' c'] 27)).cell? ⟨w.heap.size,0,none⟩=some (.int .i64 cells):=(zq w #[.int .i64 cells,.slice a n c,.int .i64 sum,.slice a' n' c'] 27 0).trans rfl
  have x1:(w.alloc (.cells #[.int .i64 cells,.slice a n c,.int .i64 sum,.slice a' n' c'] 27)).cell? ⟨w.heap.size,1,none⟩=some (.slice a n c):=(zq w #[.int .i64 cells,.slice a n c,.int .i64 sum,.slice a' n' c'] 27 1).trans rfl
  have x2:(w.alloc (.cells #[.int .i64 cells,.slice a n c,.int .i64 sum,.slice a' n' c'] 27)).cell? ⟨w.heap.size,2,none⟩=some (.int .i64 sum):=(zq w #[.int .i64 cells,.slice a n c,.int .i64 sum,.slice a' n' c'] 27 2).trans rfl
  have x3:(w.alloc (.cells #[.int .i64 cells,.slice a n c,.int .i64 sum,.slice a' n' c'] 27)).cell? ⟨w.heap.size,3,none⟩=some (.slice a' n' c'):=(zq w #[.int .i64 cells,.slice a n c,.int .i64 sum,.slice a' n' c'] 27 3).trans rfl
  generalize (w.alloc (.cells #[.int .i64 cells,.slice a n c,.int .i64 sum,.slice a' n' c'] 27))=W0 at hsz hB x0 x1 x2 x3 ⊢
  have h0:=h.mono hB
  have h0':=h'.mono hB
  refine zk (fun w'=>∃u,w'=over (W0) u) [20,19,18,17] [(0,0),(0,1),(0,3),(0,4),(0,5),(0,12),(0,13),(0,14),(0,15),(0,16),(1,2),(0,6),(0,7),(0,8),(0,9),(0,10),(1,11),(2,17),(2,18),(2,19),(2,20)] (by kernel_rfl) (by kernel_rfl) (by exact ⟨_,zi (by repeat (first|assumption|exact Below.refl _ _|refine zd ?_|refine zg ?_ _|refine zb ?_ (by assumption)))⟩) ?_
  dsimp only[zt,zG]
  repeat (first|(refine zu rfl (fun K hK=>?_);go_big_quiet_op;refine hK _ ?_;clear hK K)|(refine zp rfl rfl (fun K hK=>?_);go_big_quiet_op;refine hK _ ?_;clear hK K)|(refine zE ?_;go_wp2_with (first|(go_at_call 94;refine (sys_c _ _ _ _ _ _ (h0.mono (zd (Below.refl _ _))) hcap).mono ?_;rintro e w1 ⟨rfl,hb1⟩)|(go_at_call 66;refine (zO _ _ _).mono ?_;rintro e w2 ⟨rfl,rfl⟩)|(go_at_call 65;refine (zK _ _ _ _ _ (IC.new3 _ _ _ _ _)).mono ?_;rintro e w2 ⟨rfl,rfl⟩));refine ⟨?_,?_⟩;focus (exact ⟨_,zi (by repeat (first|assumption|exact Below.refl _ _|refine zd ?_|refine zg ?_ _|refine zb ?_ (by assumption)))⟩)))
  refine zA _ _ _ rfl ?_
  dsimp only[List.map]
  go_wp2_with (first|(go_at_call 94;refine (sys_c _ _ _ _ _ _ (h0.mono (zd (Below.refl _ _))) hcap).mono ?_;rintro e w1 ⟨rfl,hb1⟩)|(go_at_call 66;refine (zO _ _ _).mono ?_;rintro e w2 ⟨rfl,rfl⟩)|(go_at_call 65;refine (zK _ _ _ _ _ (IC.new3 _ _ _ _ _)).mono ?_;rintro e w2 ⟨rfl,rfl⟩))
  refine NoPanic.normal ?_
  have hb2:Below W0.heap.size W0 (w1.alloc (.cells #[.int .i64 (zX cells ls),.int .i64 (zn (decide (999999999<sum)) 3),.int .i64 (zn ((n':Int) != cells) 2)] 34)):=zg (zb (zd (Below.refl _ _)) hb1) _
  generalize (w1.alloc (.cells #[.int .i64 (zX cells ls),.int .i64 (zn (decide (999999999<sum)) 3),.int .i64 (zn ((n':Int) != cells) 2)] 34))=w3 at hb2 ⊢
  clear hb1
  generalize zz [zX cells ls,zn (decide (999999999<sum)) 3,zn ((n':Int) != cells) 2]=v at hF ⊢
  have hB3:Below w.heap.size w w3:=hB.trans (hb2.mono (by omega))
  have h3':=h0'.mono hb2
  have hsz3:w.heap.size<w3.heap.size:=by have:=hb2.size;omega
  have y0:=((zF hb2).1 _ _ hsz).trans x0
  have y3:=((zF hb2).1 _ _ hsz).trans x3
  clear x0 x1 x2 x3
  by_cases hv:v=0
  case neg =>
   have hv':(v != 0)=true:=by simpa using hv
   have hV:=za hv
   clear hv
   go_wp2
   go_ret
   exact ⟨zD (by rw[hF.out,if_pos hV.out]),hB3⟩
  have hv':(v != 0)=false:=by simpa using hv
  have hV:=za hv
  clear hv
  go_wp2
  have Y0:=za y0
  have Y3:=za y3
  clear y0 y3
  go_loopw [5,6,7,37] (fun _ _ _ i wr=>∃k:Nat,k≤n'∧i = .int .i64 k∧Hid (∀j,j<k→jn cells g j=0)∧Below w3.heap.size w3 wr) (fun _ _ _ i _=>n' - (intOf i).toNat)
  case atStart=>exact ⟨0,by omega,rfl,fun j hj=>absurd hj (by omega),Below.refl _ _⟩
  case round =>
   obtain ⟨k,hk,rfl,hn,hbr⟩:=hrel
   have hszr:w.heap.size<wr.heap.size:=by have:=hbr.size;omega
   have z0:=((zF hbr).1 _ _ hsz3).trans Y0.out
   have z3:=((zF hbr).1 _ _ hsz3).trans Y3.out
   by_cases hlt:k<n'
   ·obtain ⟨b,off,rfl,hb,hc⟩:=(h3'.mono hbr).2 k hlt
    have hli:(k:Int)<(n':Int):=by omega
    have hl0:(0:Int)≤(k:Int):=by omega
    have hkc:k≤c':=by omega
    have hit:=(h3'.mono hbr).take k hk
    have hG:=za (given_first cells g k)
    by_cases g1:g[k]?.getD 0<0
    ·have e1:decide (g[k]?.getD 0<0)=true:=by simpa using g1
     have e2:decide (0<g[k]?.getD 0)=false:=by simp;omega
     have hG2:Hid (jn cells g k=zz [zn true 3,zn false 9]):=by
      have:=hG.out;rw[e1,e2] at this;exact this
     clear hG
     by_cases hq:zz [zn true 3,zn false 9]=0
     ·have hq':(zz [zn true 3,zn false 9] != 0)=false:=by simpa using hq
      have hQ:=za hq
      clear hq
      go_wp2_with (first|(go_at_call 134;refine (jw _ _ _ _ _ _ hit).mono ?_;rintro e w2 ⟨rfl,rfl⟩)|(go_at_call 66;refine (zO _ _ _).mono ?_;rintro e w2 ⟨rfl,rfl⟩)|(go_at_call 65;refine (zK _ _ _ _ _ (IC.new2 _ _ _ _)).mono ?_;rintro e w2 ⟨rfl,rfl⟩))
      go_roundw
      case rel=>exact ⟨k+1,by omega,by go_num,jj hn.out (by rw[hG2.out];exact hQ.out),zg hbr _⟩
      case measure=>simp[intOf];omega
     ·have hq':(zz [zn true 3,zn false 9] != 0)=true:=by simpa using hq
      have hQ:=za hq
      clear hq
      go_wp2_with (first|(go_at_call 134;refine (jw _ _ _ _ _ _ hit).mono ?_;rintro e w2 ⟨rfl,rfl⟩)|(go_at_call 66;refine (zO _ _ _).mono ?_;rintro e w2 ⟨rfl,rfl⟩)|(go_at_call 65;refine (zK _ _ _ _ _ (IC.new2 _ _ _ _)).mono ?_;rintro e w2 ⟨rfl,rfl⟩))
      go_ret
      have h1:=zS hn.out hlt (by rw[hG2.out];exact hQ.out)
      exact ⟨zD (by rw[hF.out,if_neg (by rw[hV.out];simp),h1,hG2.out]),zg (hB3.trans (hbr.mono (by omega))) _⟩
    ·have e1:decide (g[k]?.getD 0<0)=false:=by simpa using g1
     by_cases g2:0<g[k]?.getD 0
     ·have e2:decide (0<g[k]?.getD 0)=true:=by simpa using g2
      have hG2:Hid (jn cells g k=zz [zn (decide (cells<g[k]?.getD 0)) 3,zn (zY (g.take k) (g[k]?.getD 0)) 9]):=by
       have:=hG.out;rw[e1,e2] at this;exact this
      clear hG
      by_cases hq:zz [zn (decide (cells<g[k]?.getD 0)) 3,zn (zY (g.take k) (g[k]?.getD 0)) 9]=0
      ·have hq':(zz [zn (decide (cells<g[k]?.getD 0)) 3,zn (zY (g.take k) (g[k]?.getD 0)) 9] != 0)=false:=by simpa using hq
       have hQ:=za hq
       clear hq
       go_wp2_with (first|(go_at_call 134;refine (jw _ _ _ _ _ _ hit).mono ?_;rintro e w2 ⟨rfl,rfl⟩)|(go_at_call 66;refine (zO _ _ _).mono ?_;rintro e w2 ⟨rfl,rfl⟩)|(go_at_call 65;refine (zK _ _ _ _ _ (IC.new2 _ _ _ _)).mono ?_;rintro e w2 ⟨rfl,rfl⟩))
       go_roundw
       case rel=>exact ⟨k+1,by omega,by go_num,jj hn.out (by rw[hG2.out];exact hQ.out),zg hbr _⟩
       case measure=>simp[intOf];omega
      ·have hq':(zz [zn (decide (cells<g[k]?.getD 0)) 3,zn (zY (g.take k) (g[k]?.getD 0)) 9] != 0)=true:=by simpa using hq
       have hQ:=za hq
       clear hq
       go_wp2_with (first|(go_at_call 134;refine (jw _ _ _ _ _ _ hit).mono ?_;rintro e w2 ⟨rfl,rfl⟩)|(go_at_call 66;refine (zO _ _ _).mono ?_;rintro e w2 ⟨rfl,rfl⟩)|(go_at_call 65;refine (zK _ _ _ _ _ (IC.new2 _ _ _ _)).mono ?_;rintro e w2 ⟨rfl,rfl⟩))
       go_ret
       have h1:=zS hn.out hlt (by rw[hG2.out];exact hQ.out)
       exact ⟨zD (by rw[hF.out,if_neg (by rw[hV.out];simp),h1,hG2.out]),zg (hB3.trans (hbr.mono (by omega))) _⟩
     ·have e2:decide (0<g[k]?.getD 0)=false:=by simpa using g2
      have hG2:Hid (jn cells g k=zz [zn (decide (cells<g[k]?.getD 0)) 3,zn false 9]):=by
       have:=hG.out;rw[e1,e2] at this;exact this
      clear hG
      by_cases hq:zz [zn (decide (cells<g[k]?.getD 0)) 3,zn false 9]=0
      ·have hq':(zz [zn (decide (cells<g[k]?.getD 0)) 3,zn false 9] != 0)=false:=by simpa using hq
       have hQ:=za hq
       clear hq
       go_wp2_with (first|(go_at_call 134;refine (jw _ _ _ _ _ _ hit).mono ?_;rintro e w2 ⟨rfl,rfl⟩)|(go_at_call 66;refine (zO _ _ _).mono ?_;rintro e w2 ⟨rfl,rfl⟩)|(go_at_call 65;refine (zK _ _ _ _ _ (IC.new2 _ _ _ _)).mono ?_;rintro e w2 ⟨rfl,rfl⟩))
       go_roundw
       case rel=>exact ⟨k+1,by omega,by go_num,jj hn.out (by rw[hG2.out];exact hQ.out),zg hbr _⟩
       case measure=>simp[intOf];omega
      ·have hq':(zz [zn (decide (cells<g[k]?.getD 0)) 3,zn false 9] != 0)=true:=by simpa using hq
       have hQ:=za hq
       clear hq
       go_wp2_with (first|(go_at_call 134;refine (jw _ _ _ _ _ _ hit).mono ?_;rintro e w2 ⟨rfl,rfl⟩)|(go_at_call 66;refine (zO _ _ _).mono ?_;rintro e w2 ⟨rfl,rfl⟩)|(go_at_call 65;refine (zK _ _ _ _ _ (IC.new2 _ _ _ _)).mono ?_;rintro e w2 ⟨rfl,rfl⟩))
       go_ret
       have h1:=zS hn.out hlt (by rw[hG2.out];exact hQ.out)
       exact ⟨zD (by rw[hF.out,if_neg (by rw[hV.out];simp),h1,hG2.out]),zg (hB3.trans (hbr.mono (by omega))) _⟩
   ·have e:k=n':=by omega
    subst e
    go_wp2
    go_ret
    exact ⟨zD (by rw[hF.out,if_neg (by rw[hV.out];simp),ju hn.out]),hB3.trans (hbr.mono (by omega))⟩
end
section
open Go Go.RowKit
attribute [local go_sem] zv
theorem open_c (v1:Value) (cells sum:Int) (a':Option Addr) (n' c':Nat) (g:List Int) (w:World) (h':IC w a' n' g) :
  Calls Tryz.prog 139 #[.agg #[.int .i64 cells,v1,.int .i64 sum,.slice a' n' c']] w fun e w'=>∃v,e = .returned v∧w'.ownsRow w.heap.size 3 1 v (zj g).length ((zj g).map (Value.int .i64))∧Below w.heap.size w w':=by
 have hm':=h'.small
 obtain ⟨i0,hi,hz0,hz1,hz2⟩:=info_parts qk
 go_enter Tryz.func139,Tryz.ntmps139
 go_wp2
 have hsz:w.heap.size<(w.alloc (.cells #[.int .i64 cells,v1,.int .i64 sum,.slice a' n' c'] 27)).heap.size:=by simp
 have hB:Below w.heap.size w (w.alloc (.cells #[.int .i64 cells,v1,.int .i64 sum,.slice a' n' c'] 27)):=(Below.refl _ _).alloc (Nat.le_refl _) _
 have x0:(w.alloc (.cells #[.int .i64 cells,v1,.int .i64 sum,.slice a' n' c'] 27)).cell? ⟨w.heap.size,0,none⟩=some (.int .i64 cells):=(zq w #[.int .i64 cells,v1,.int .i64 sum,.slice a' n' c'] 27 0).trans rfl
 have x1:(w.alloc (.cells #[.int .i64 cells,v1,.int .i64 sum,.slice a' n' c'] 27)).cell? ⟨w.heap.size,1,none⟩=some (v1):=(zq w #[.int .i64 cells,v1,.int .i64 sum,.slice a' n' c'] 27 1).trans rfl
 have x2:(w.alloc (.cells #[.int .i64 cells,v1,.int .i64 sum,.slice a' n' c'] 27)).cell? ⟨w.heap.size,2,none⟩=some (.int .i64 sum):=(zq w #[.int .i64 cells,v1,.int .i64 sum,.slice a' n' c'] 27 2).trans rfl
 have x3:(w.alloc (.cells #[.int .i64 cells,v1,.int .i64 sum,.slice a' n' c'] 27)).cell? ⟨w.heap.size,3,none⟩=some (.slice a' n' c'):=(zq w #[.int .i64 cells,v1,.int .i64 sum,.slice a' n' c'] 27 3).trans rfl
 generalize (w.alloc (.cells #[.int .i64 cells,v1,.int .i64 sum,.slice a' n' c'] 27))=W0 at hsz hB x0 x1 x2 x3 ⊢
 have h0:=h'.mono hB
 clear x0 x1 x2 x3
 go_loopw [3,4,5,9] (fun v _ _ i wr=>∃k:Nat,k≤n'∧i = .int .i64 k∧wr.ownsRow W0.heap.size 3 1 v (jM g k).length ((jM g k).map (Value.int .i64))∧Below W0.heap.size W0 wr) (fun _ _ _ i _=>n' - (intOf i).toNat)
 case atStart=>exact ⟨0,by omega,rfl,World.ownsRow_nil _ _ _ _,Below.refl _ _⟩
 case round =>
  obtain ⟨k,hk,rfl,hown,hbr⟩:=hrel
  by_cases hlt:k<n'
  ·obtain ⟨b,off,rfl,hb,hc⟩:=(h0.mono hbr).2 k hlt
   have hlen:=jA g k
   go_wp2_with (at_builtin;refine wpList_append_own _ rfl _ _ 25 rfl W0.heap.size 3 i0 (.int .i64 0) 1 8 Tryz.underlying25 hi hz0 hz1 hz2 rfl (by decide) _ _ _ rfl (hown.alloc _) ⟨wr.heap.size,0,none⟩ 1 1 [.int .i64 k] rfl rfl (cell_one_new _ _ _) (by simp[Value.oneCell']) (by unfold maxLen;omega) (by omega) (by have:=hbr.size;simp;omega) ?_)
   ·intro v' w1 hown' hgrow _
    have he:(g[k]?.getD 0==0)=true:=by assumption
    have hb1:Below W0.heap.size W0 w1:=(hbr.alloc hbr.size _).grown hgrow (by simp;have:=hbr.size;omega) (fun j e=>(hown.lt j e).1)
    have hown2:w1.ownsRow W0.heap.size 3 1 v' (jM g (k+1)).length ((jM g (k+1)).map (Value.int .i64)):=by
     rw[openTo_hit he];simpa using hown'
    clear hown' hgrow hown
    go_wp2
    go_roundw
    case rel=>exact ⟨k+1,by omega,by go_num,hown2,hb1⟩
    case measure=>simp[intOf];omega
   ·have he:(g[k]?.getD 0==0)=false:=by assumption
    go_roundw
    case rel=>exact ⟨k+1,by omega,by go_num,by rw[openTo_miss he];exact hown,hbr⟩
    case measure=>simp[intOf];omega
  ·have e:k=n':=by omega
   subst e
   go_wp2
   go_ret
   refine ⟨_,rfl,?_,hB.trans (hbr.mono (by omega))⟩
   rw[zj,h'.len]
   exact zI hown (by omega)
theorem PutW.set {w w':World} {b off M M':Nat} (h:SetC w b off M) (hp:PutW w w' b off M M'):SetC w' b off M':=by
 obtain ⟨q,hq,rfl,ho⟩:=hp
 intro q' hq'
 show (w.setCell _ _).cell? _=_
 by_cases e:q'=q
 ·subst e
  exact World.cell?_setCell_same _ _ _ (h q' hq')
 ·rw[World.cell?_setCell_other _ _ _ _ (fun e2=>e (by simp only[Addr.mk.injEq,true_and,and_true] at e2;omega)),h q' hq',ho q' e]
theorem PutW.frozen {w w':World} {b off M M':Nat} (hp:PutW w w' b off M M') (a:Addr):w'.frozen? a=w.frozen? a:=by
 obtain ⟨q,hq,rfl,ho⟩:=hp
 show (w.setCell _ _).frozen? _=_
 exact World.frozen?_setCell _ _ _ _
theorem SetC.mono {w w':World} {b off M:Nat} (h:SetC w b off M) (hb:Below w.heap.size w w') (hlt:b<w.heap.size):SetC w' b off M :=
 fun q hq=>((zF hb).1 b _ hlt).trans (h q hq)
theorem PutW.size {w w':World} {b off M M':Nat} (hp:PutW w w' b off M M'):w.heap.size=w'.heap.size:=by
 obtain ⟨q,hq,rfl,ho⟩:=hp
 simp[World.drew,World.setCell]
theorem PutW.below {w w':World} {b off M M':Nat} (hp:PutW w w' b off M M'):Below b w w':=by
 obtain ⟨q,hq,rfl,ho⟩:=hp
 exact ((Below.refl b w).setCell (p:=⟨b,off+q,none⟩) (Nat.le_refl _) _).drew
def zZ (xs:List Int):Nat:=xs.foldl (fun M x=>if 0<x then M ||| 2 ^ (x.toNat - 1) else M) 0
theorem maskL_snoc (xs:List Int) (x:Int):zZ (xs++[x])=if 0<x then zZ xs ||| 2 ^ (x.toNat - 1) else zZ xs:=by
 simp[zZ,List.foldl_append]
theorem hasB_cons (x:Int) (xs:List Int) (y:Int):zY (x :: xs) y=(decide (x=y)||zY xs y):=by
 unfold zY
 rw[Bool.eq_iff_iff]
 by_cases e:x=y
 ·subst e;simp
 ·have e':¬y=x:=fun h=>e h.symm
  simp[e,e']
theorem jW (xs:List Int) (j:Nat):(zZ xs).testBit j=zY xs ((j:Int)+1):=by
 have key:∀(xs:List Int) (M:Nat),(xs.foldl (fun M x=>if 0<x then M ||| 2 ^ (x.toNat - 1) else M) M).testBit j=(M.testBit j||zY xs ((j:Int)+1)):=by
  intro xs
  induction xs with
  | nil=>intro M;simp[zY]
  | cons x xs ih =>
   intro M
   rw[List.foldl_cons,ih]
   have e:zY (x :: xs) ((j:Int)+1)=(decide (x=(j:Int)+1)||zY xs ((j:Int)+1)):=hasB_cons x xs _
   rw[e]
   by_cases hx:0<x
   ·rw[if_pos hx,Nat.testBit_or,Nat.testBit_two_pow]
    have:decide (x.toNat - 1=j)=decide (x=(j:Int)+1):=by
     rw[decide_eq_decide];omega
    rw[this,Bool.or_assoc]
   ·rw[if_neg hx]
    have:decide (x=(j:Int)+1)=false:=by simp;omega
    rw[this];simp
 have:=key xs 0
 simpa [zZ] using this
def jy (g:List Int) (k:Nat):List Int:=((List.range k).filter (fun (i:Nat)=>!zY g ((i:Int)+1))).map (fun (i:Nat)=>(i:Int)+1)
def zh (g:List Int):List Int:=jy g g.length
theorem unusedTo_hit {g:List Int} {k:Nat} (h:zY g ((k:Int)+1)=false):jy g (k+1)=jy g k++[(k:Int)+1]:=by
 simp only[jy,List.range_succ,List.filter_append,List.map_append]
 congr 1
 simp[h]
theorem unusedTo_miss {g:List Int} {k:Nat} (h:zY g ((k:Int)+1)=true):jy g (k+1)=jy g k:=by
 simp only[jy,List.range_succ,List.filter_append,List.map_append]
 simp[h]
theorem jd (g:List Int) (k:Nat):(jy g k).length≤k:=by
 simp only[jy,List.length_map]
 have:=List.length_filter_le (fun (i:Nat)=>!zY g ((i:Int)+1)) (List.range k)
 simpa using this
theorem qX (v1:Value) (cells sum:Int) (a':Option Addr) (n' c':Nat) (g:List Int) (w:World) (h':IC w a' n' g) (hn:n'≤256) (hg:∀k,k<n'→0≤g[k]?.getD 0∧g[k]?.getD 0≤256) :
  Calls Tryz.prog 73 #[.agg #[.int .i64 cells,v1,.int .i64 sum,.slice a' n' c']] w fun e w'=>∃v,e = .returned v∧w'.ownsRow w.heap.size 3 1 v (zh g).length ((zh g).map (Value.int .i64))∧Below w.heap.size w w':=by
 have hm':=h'.small
 have HG:=za hg
 clear hg
 obtain ⟨i0,hi,hz0,hz1,hz2⟩:=info_parts qk
 go_enter Tryz.func73,Tryz.ntmps73
 go_wp2
 have hsz:w.heap.size<(w.alloc (.cells #[.int .i64 cells,v1,.int .i64 sum,.slice a' n' c'] 27)).heap.size:=by simp
 have hszE:(w.alloc (.cells #[.int .i64 cells,v1,.int .i64 sum,.slice a' n' c'] 27)).heap.size=w.heap.size+1:=by simp
 have hB:Below w.heap.size w (w.alloc (.cells #[.int .i64 cells,v1,.int .i64 sum,.slice a' n' c'] 27)):=(Below.refl _ _).alloc (Nat.le_refl _) _
 have x0:(w.alloc (.cells #[.int .i64 cells,v1,.int .i64 sum,.slice a' n' c'] 27)).cell? ⟨w.heap.size,0,none⟩=some (.int .i64 cells):=(zq w #[.int .i64 cells,v1,.int .i64 sum,.slice a' n' c'] 27 0).trans rfl
 have x1:(w.alloc (.cells #[.int .i64 cells,v1,.int .i64 sum,.slice a' n' c'] 27)).cell? ⟨w.heap.size,1,none⟩=some (v1):=(zq w #[.int .i64 cells,v1,.int .i64 sum,.slice a' n' c'] 27 1).trans rfl
 have x2:(w.alloc (.cells #[.int .i64 cells,v1,.int .i64 sum,.slice a' n' c'] 27)).cell? ⟨w.heap.size,2,none⟩=some (.int .i64 sum):=(zq w #[.int .i64 cells,v1,.int .i64 sum,.slice a' n' c'] 27 2).trans rfl
 have x3:(w.alloc (.cells #[.int .i64 cells,v1,.int .i64 sum,.slice a' n' c'] 27)).cell? ⟨w.heap.size,3,none⟩=some (.slice a' n' c'):=(zq w #[.int .i64 cells,v1,.int .i64 sum,.slice a' n' c'] 27 3).trans rfl
 generalize (w.alloc (.cells #[.int .i64 cells,v1,.int .i64 sum,.slice a' n' c'] 27))=W0 at hsz hszE hB x0 x1 x2 x3 ⊢
 have h0:=h'.mono hB
 clear x0 x1 x2
 have hset:SetC (W0.alloc (.cells #[.int .u64 0,.int .u64 0,.int .u64 0,.int .u64 0] 148)) W0.heap.size 0 (zZ (g.take 0)):=by
  intro q hq
  have e:ze (zZ (g.take 0)) q=0:=by simp[zZ,ze]
  rw[e,World.cell?_alloc_new]
  match q,hq with
  | 0,_=>rfl
  | 1,_=>rfl
  | 2,_=>rfl
  | 3,_=>rfl
 have hfz:∀q,q<4→(W0.alloc (.cells #[.int .u64 0,.int .u64 0,.int .u64 0,.int .u64 0] 148)).frozen? ⟨W0.heap.size,0+q,none⟩=false:=by
  intro q _;simp
 have hbw:Below W0.heap.size W0 (W0.alloc (.cells #[.int .u64 0,.int .u64 0,.int .u64 0,.int .u64 0] 148)):=(Below.refl _ W0).alloc (by simp) _
 have hszw:W0.heap.size+1=(W0.alloc (.cells #[.int .u64 0,.int .u64 0,.int .u64 0,.int .u64 0] 148)).heap.size:=by simp
 rw[hszE] at hset hfz hbw hszw
 generalize (W0.alloc (.cells #[.int .u64 0,.int .u64 0,.int .u64 0,.int .u64 0] 148))=W1 at hset hfz hbw hszw ⊢
 have X3:W1.cell? ⟨w.heap.size,3,none⟩=some (.slice a' n' c'):=((zF (hszE▸hbw)).1 _ _ hsz).trans x3
 go_loopw [5,11] (fun _ i wr=>∃k:Nat,k≤n'∧i = .int .i64 k∧SetC wr (w.heap.size+1) 0 (zZ (g.take k))∧(∀q,q<4→wr.frozen? ⟨w.heap.size+1,0+q,none⟩=false)∧Below (w.heap.size+1) W0 wr∧w.heap.size+1<wr.heap.size) (fun _ i _=>n' - (intOf i).toNat)
 case atStart=>exact ⟨0,by omega,rfl,hset,hfz,hbw,by omega⟩
 case round =>
  clear hset hfz hbw hszw X3
  obtain ⟨k,hk,rfl,hset,hfz,hbr,hsr⟩:=hrel
  by_cases hlt:k<n'
  ·obtain ⟨b,off,rfl,hb,hc⟩:=(h0.mono (hszE▸hbr)).2 k hlt
   have hx:=HG.out k hlt
   have htk:g.take (k+1)=g.take k++[g[k]?.getD 0]:=zP _ _ _ (by have:=h0.len;omega)
   generalize g[k]?.getD 0=x at hx hc htk
   go_wp2_with (go_at_call 146;refine (sput_c (w.heap.size+1) 0 (zZ (g.take k)) x wr hset (by omega) (by omega) (by omega) hfz).mono ?_;rintro _ w1 ⟨rfl,hp⟩)
   ·have hx0:0<x:=by go_num
    go_wp2
    go_roundw
    case rel =>
     refine ⟨k+1,by omega,by go_num,?_,fun q hq=>(hp.frozen _).trans (hfz q hq),hbr.trans (hp.below.mono (Nat.le_refl _)),by have:=hp.below.size;have:=hp.size;omega⟩
     rw[htk,maskL_snoc,if_pos hx0]
     exact PutW.set hset hp
    case measure=>simp[intOf];omega
   ·have hx0:¬0<x:=by go_num
    go_roundw
    case rel =>
     refine ⟨k+1,by omega,by go_num,?_,hfz,hbr,hsr⟩
     rw[htk,maskL_snoc,if_neg hx0]
     exact hset
    case measure=>simp[intOf];omega
  ·have e:k=n':=by omega
   subst e
   have hl:=h'.len
   have hM:g.take k=g:=by rw[← hl];exact List.take_length
   rw[hM] at hset
   clear hM hfz
   have X3:wr.cell? ⟨w.heap.size,3,none⟩=some (.slice a' k c'):=((zF (hszE▸hbr)).1 _ _ hsz).trans x3
   obtain ⟨wo,ho⟩:∃wo:World,wo=wr:=⟨_,rfl⟩
   rw[← ho] at hset hbr hsr
   subst ho
   go_wp2
   clear X3
   go_loopw [6,7,23] (fun v _ i wr=>∃j:Nat,j≤k∧i = .int .i64 j∧wr.ownsRow wo.heap.size 3 1 v (jy g j).length ((jy g j).map (Value.int .i64))∧Below wo.heap.size wo wr) (fun _ _ i _=>k - (intOf i).toNat)
   case atStart=>exact ⟨0,by omega,rfl,World.ownsRow_nil _ _ _ _,Below.refl _ _⟩
   case round =>
    obtain ⟨j,hj,rfl,hown,hb2⟩:=hrel
    have hset2:=hset.mono hb2 hsr
    by_cases hlt:j<k
    ·have hlen:=jd g j
     have hT:(zZ g).testBit (((j:Int)+1).toNat - 1)=zY g ((j:Int)+1):=by
      rw[show ((j:Int)+1).toNat - 1=j from by omega];exact jW g j
     have HC:=shas_c (w.heap.size+1) 0 (zZ g) ((j:Int)+1) wr hset2 (by omega) (by omega)
     rw[hT] at HC
     have HC':=za HC
     clear HC hT hset2
     go_wp2_with (first|(go_at_call 147;refine HC'.out.mono ?_;rintro _ w1 ⟨rfl,rfl⟩)|(at_builtin;refine wpList_append_own _ rfl _ _ 25 rfl wo.heap.size 3 i0 (.int .i64 0) 1 8 Tryz.underlying25 hi hz0 hz1 hz2 rfl (by decide) _ _ _ rfl (hown.alloc _) ⟨wr.heap.size,0,none⟩ 1 1 [.int .i64 ((j:Int)+1)] rfl rfl (cell_one_new _ _ _) (by simp[Value.oneCell']) (by unfold maxLen;omega) (by omega) (by have:=hb2.size;simp;omega) ?_))
     ·intro v' w1 hown' hgrow _
      have hq:(!zY g ((j:Int)+1))=true:=by assumption
      have he:zY g ((j:Int)+1)=false:=by simpa using hq
      have hb1:Below wo.heap.size wo w1:=(hb2.alloc hb2.size _).grown hgrow (by simp;have:=hb2.size;omega) (fun q e=>(hown.lt q e).1)
      have hown2:w1.ownsRow wo.heap.size 3 1 v' (jy g (j+1)).length ((jy g (j+1)).map (Value.int .i64)):=by
       rw[unusedTo_hit he];simpa using hown'
      clear hown' hgrow hown
      go_wp2
      go_roundw
      case rel=>exact ⟨j+1,by omega,by go_num,hown2,hb1⟩
      case measure=>simp[intOf];omega
     ·have hq:(!zY g ((j:Int)+1))=false:=by assumption
      have he:zY g ((j:Int)+1)=true:=by simpa using hq
      go_roundw
      case rel=>exact ⟨j+1,by omega,by go_num,by rw[unusedTo_miss he];exact hown,hb2⟩
      case measure=>simp[intOf];omega
    ·have e:j=k:=by omega
     subst e
     go_wp2
     go_ret
     refine ⟨_,rfl,?_,hB.trans ((hbr.mono (by omega)).trans (hb2.mono (by omega)))⟩
     rw[zh,hl]
     exact zI hown (by omega)
end
end Go.Proofs.YtaadpihbjhachaaGreat
