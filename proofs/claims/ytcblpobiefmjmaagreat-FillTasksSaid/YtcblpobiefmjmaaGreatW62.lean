/- Texts Q10 to Q10 of this proof, in one file. -/
import Derived.Test.YtcblpobiefmjmaaGreatW02
import Derived.Test.YtcblpobiefmjmaaGreatW06
import Derived.Test.YtcblpobiefmjmaaGreatW08
import Derived.Test.YtcblpobiefmjmaaGreatW11
import Derived.Test.YtcblpobiefmjmaaGreatW20
import Derived.Test.YtcblpobiefmjmaaGreatW61
namespace Go.Proofs.YtcblpobiefmjmaaGreat
set_option maxRecDepth 100000
set_option maxHeartbeats 16000000
section
open Go Go.RowKit
attribute [local go_sem] over_cell
attribute [local go_sem] Oper.semAt_some
theorem bnd_bad {cells:Int} {ls:List (List Int)} {sum:Int} {g:List Int} {line:Int} (h:taskErr cells ls sum g≠0):bndE cells ls sum g line=taskErr cells ls sum g∧bndLo cells ls sum g line=0∧bndHi cells ls sum g line=0:=by
 have e:bndE cells ls sum g line=taskErr cells ls sum g:=by unfold bndE firstL;rw[if_pos (by simpa using h)]
 have h2:(bndE cells ls sum g line != 0)=true:=by rw[e];simpa using h
 exact ⟨e,by unfold bndLo;rw[if_pos h2],by unfold bndHi;rw[if_pos h2]⟩
theorem bnd_out {cells:Int} {ls:List (List Int)} {sum:Int} {g:List Int} {line:Int} (h:taskErr cells ls sum g=0) (hl:line<0∨(ls.length:Int)≤line):bndE cells ls sum g line=10∧bndLo cells ls sum g line=0∧bndHi cells ls sum g line=0:=by
 have hd:(decide (line<0)||decide ((ls.length:Int)≤line))=true:=by rw[Bool.or_eq_true,decide_eq_true_eq,decide_eq_true_eq];exact hl
 have e:bndE cells ls sum g line=10:=by unfold bndE;rw[h,hd];rfl
 have h2:(bndE cells ls sum g line != 0)=true:=by rw[e];rfl
 exact ⟨e,by unfold bndLo;rw[if_pos h2],by unfold bndHi;rw[if_pos h2]⟩
theorem bnd_in {cells:Int} {ls:List (List Int)} {sum:Int} {g:List Int} {k:Nat} (h:taskErr cells ls sum g=0) (hl:k<ls.length):bndE cells ls sum g (k:Int)=0∧bndLo cells ls sum g (k:Int)=lowV (ls[k]?.getD []) g (unusedL g)∧bndHi cells ls sum g (k:Int)=highV (ls[k]?.getD []) g (unusedL g):=by
 have hd:(decide ((k:Int)<0)||decide ((ls.length:Int)≤(k:Int)))=false:=by rw[Bool.or_eq_false_iff,decide_eq_false_iff_not,decide_eq_false_iff_not];omega
 have e:bndE cells ls sum g (k:Int)=0:=by unfold bndE;rw[h,hd];rfl
 have h2:¬(bndE cells ls sum g (k:Int) != 0)=true:=by rw[e];decide
 exact ⟨e,by unfold bndLo;rw[if_neg h2];rfl,by unfold bndHi;rw[if_neg h2];rfl⟩
theorem ftasks_c (a:Option Addr) (n c:Nat) (ls:List (List Int)) (cells sum:Int) (a':Option Addr) (n' c':Nat) (g:List Int) (af:Option Addr) (nf cf:Nat) (f:List Int) (line:Int) (w:World) (h:RC w a n ls) (hcap:n≤c) (h':IC w a' n' g) (hcap':n'≤c') (hf:IC w af nf f) (_hcf:nf≤cf) :
  Calls Tryz.prog 12 #[.agg #[.int .i64 cells,.slice a n c,.int .i64 sum,.slice a' n' c'],.slice af nf cf,.int .i64 line] w fun e w'=>e = .returned (.bool true)∧Below w.heap.size w w':=by
 have HA:=Lib.hid awake_c
 have HS:=Lib.hid (fun w1 (hb:Below w.heap.size w w1)=>short6_c a n c ls cells sum a' n' c' g 40 w1 (h.mono hb) (h'.mono hb))
 have HCT:=Lib.hid (fun w1 (hb:Below w.heap.size w w1)=>rtask_c a n c ls cells sum a' n' c' g w1 (h.mono hb) hcap (h'.mono hb) hcap')
 have HT:=Lib.hid (fun w1 (hb:Below w.heap.size w w1)=>task_c a n c ls cells sum a' n' c' g w1 (h.mono hb) hcap (h'.mono hb) hcap')
 have HI:=Lib.hid (fun w1 (hb:Below w.heap.size w w1)=>fsol_c a n c ls cells sum a' n' c' g af nf cf f w1 (h.mono hb) hcap (h'.mono hb) hcap' (hf.mono hb))
 have HB:=Lib.hid (fun w1 (hb:Below w.heap.size w w1)=>bnd_c a n c ls cells sum a' n' c' g line w1 (h.mono hb) hcap (h'.mono hb) hcap')
 have HCF:=Lib.hid (fun w1 (hb:Below w.heap.size w w1)=>cfill_c cells (.slice a n c) af nf cf f w1 (hf.mono hb))
 have HIS:Hid (taskErr cells ls sum g=0→fillE cells f=0→∀w1,Below w.heap.size w w1→Calls Tryz.prog 34 #[.agg #[.int .i64 cells,.slice a n c,.int .i64 sum,.slice a' n' c'],.slice af nf cf] w1 fun e w'=>e = .returned (.bool (solB ls sum g f))∧Below w1.heap.size w1 w'):=fun e e2 w1 hb=>by
  have G:=goodTask e
  have h1:=G.len
  have h2:=G.cells2
  have h4:=h'.len
  have h5:=hf.len
  have hnf:nf=n':=by
   unfold fillE at e2
   by_cases hc:(f.length:Int)=cells
   ·omega
   ·rw[if_pos hc] at e2;cases e2
  exact issol_c G a n c a' n' c' af nf cf f w1 (h.mono hb) (h'.mono hb) (hf.mono hb) hnf (fun hn=>norm_num hn (by omega))
 have HRB:Hid (taskErr cells ls sum g=0→∀k:Nat,k<n→∀w1,Below w.heap.size w w1→Calls Tryz.prog 53 #[.agg #[.int .i64 cells,.slice a n c,.int .i64 sum,.slice a' n' c'],.int .i64 (k:Int)] w1 fun e w'=>e = .returned (.tuple #[.int .i64 (lowV (ls[k]?.getD []) g (unusedL g)),.int .i64 (highV (ls[k]?.getD []) g (unusedL g))])∧Below w1.heap.size w1 w'):=fun e k hk w1 hb=>rbounds_c (goodTask e) a n c a' n' c' k w1 (h.mono hb) (h'.mono hb) hk
 have HB1:Hid (taskErr cells ls sum g≠0→bndE cells ls sum g line=taskErr cells ls sum g∧bndLo cells ls sum g line=0∧bndHi cells ls sum g line=0):=fun e=>bnd_bad e
 have HB2:Hid (taskErr cells ls sum g=0→line<0∨(n:Int)≤line→bndE cells ls sum g line=10∧bndLo cells ls sum g line=0∧bndHi cells ls sum g line=0):=fun e e2=>bnd_out e (by rw[h.len];exact e2)
 have HB3:Hid (taskErr cells ls sum g=0→∀k:Nat,k<n→line=(k:Int)→bndE cells ls sum g line=0∧bndLo cells ls sum g line=lowV (ls[k]?.getD []) g (unusedL g)∧bndHi cells ls sum g line=highV (ls[k]?.getD []) g (unusedL g)):=fun e k hk e2=>by rw[e2];exact bnd_in e (by rw[h.len];exact hk)
 have HV1:Hid (taskErr cells ls sum g≠0→solE cells ls sum g f=taskErr cells ls sum g∧isV cells ls sum g f=false):=fun e=>by
  have e1:solE cells ls sum g f=taskErr cells ls sum g:=by unfold solE;rw[if_pos e]
  exact ⟨e1,by unfold isV;rw[e1,if_pos e]⟩
 have HV2:Hid (taskErr cells ls sum g=0→solE cells ls sum g f=fillE cells f∧(fillE cells f≠0→isV cells ls sum g f=false)∧(fillE cells f=0→isV cells ls sum g f=solB ls sum g f)):=fun e=>by
  have e1:solE cells ls sum g f=fillE cells f:=by unfold solE;rw[if_neg (fun h=>h e)]
  exact ⟨e1,fun e2=>by unfold isV;rw[e1,if_pos e2],fun e2=>by unfold isV;rw[e1,if_neg (fun h=>h e2)]⟩
 have hns:=h.small
 clear h h' hf
 generalize short6B 40 ls g=sh at HS
 generalize isV cells ls sum g f=iv at HI HV1 HV2
 generalize solE cells ls sum g f=se at HI HV1 HV2
 generalize bndLo cells ls sum g line=lo at HB HB1 HB2 HB3
 generalize bndHi cells ls sum g line=hi at HB HB1 HB2 HB3
 generalize bndE cells ls sum g line=be at HB HB1 HB2 HB3
 generalize solB ls sum g f=sb at HIS HV2
 generalize fillE cells f=fe at HCF HIS HV2
 generalize taskErr cells ls sum g=te at HCT HT HIS HRB HB1 HB2 HB3 HV1 HV2
 go_enter Tryz.func12,Tryz.ntmps12
 go_upto_region 2 with fail
 have fsz:((w.alloc (.cells #[.int .i64 cells,.slice a n c,.int .i64 sum,.slice a' n' c'] 27)).alloc (.cells #[.int .i64 cells,.slice a n c,.int .i64 sum,.slice a' n' c'] 28)).heap.size=w.heap.size+2:=by simp only[World.size_alloc] <;> omega
 have fB:Below w.heap.size w ((w.alloc (.cells #[.int .i64 cells,.slice a n c,.int .i64 sum,.slice a' n' c'] 27)).alloc (.cells #[.int .i64 cells,.slice a n c,.int .i64 sum,.slice a' n' c'] 28)):=((Below.refl _ _).alloc (Nat.le_refl _) _).alloc (by simp only[World.size_alloc];omega) _
 have fq0:((w.alloc (.cells #[.int .i64 cells,.slice a n c,.int .i64 sum,.slice a' n' c'] 27)).alloc (.cells #[.int .i64 cells,.slice a n c,.int .i64 sum,.slice a' n' c'] 28)).heap[w.heap.size]?=some (.cells #[.int .i64 cells,.slice a n c,.int .i64 sum,.slice a' n' c'] 27 (0,0)):=by have h:=World.alloc_heap_new w (.cells #[.int .i64 cells,.slice a n c,.int .i64 sum,.slice a' n' c'] 27);exact (Below.heap_alloc _ _ _ (by simp only[World.size_alloc];omega)).trans (h)
 have fq1:((w.alloc (.cells #[.int .i64 cells,.slice a n c,.int .i64 sum,.slice a' n' c'] 27)).alloc (.cells #[.int .i64 cells,.slice a n c,.int .i64 sum,.slice a' n' c'] 28)).heap[w.heap.size+1]?=some (.cells #[.int .i64 cells,.slice a n c,.int .i64 sum,.slice a' n' c'] 28 (0,0)):=by have h:=World.alloc_heap_new (w.alloc (.cells #[.int .i64 cells,.slice a n c,.int .i64 sum,.slice a' n' c'] 27)) (.cells #[.int .i64 cells,.slice a n c,.int .i64 sum,.slice a' n' c'] 28);simp only[World.size_alloc] at h;exact h
 generalize ((w.alloc (.cells #[.int .i64 cells,.slice a n c,.int .i64 sum,.slice a' n' c'] 27)).alloc (.cells #[.int .i64 cells,.slice a n c,.int .i64 sum,.slice a' n' c'] 28))=W0 at fsz fB fq0 fq1 ⊢
 have HY:=Lib.hid (fun W (hb:Below W0.heap.size W0 W)=>l4 (keepq hb fq0))
 have HX:=Lib.hid (fun W (hb:Below W0.heap.size W0 W)=>l4 (keepq hb fq1))
 have hcur:Below W0.heap.size W0 W0:=Below.refl _ _
 obtain ⟨y0,y1,y2,y3,yl⟩:=HY.out _ hcur
 obtain ⟨x0,x1,x2,x3,xl⟩:=HX.out _ hcur
 clear fq0 fq1 fsz
 cases sh with
 | false =>
  go_wp2_with (first|(go_at_call 14;refine (HS.out _ (keep_trans fB hcur)).mono ?_;rintro _ w1 ⟨rfl,hb1⟩;replace hcur:=keep_trans hcur hb1;clear y0 y1 y2 y3 yl;obtain ⟨y0,y1,y2,y3,yl⟩:=HY.out _ hcur;clear x0 x1 x2 x3 xl;obtain ⟨x0,x1,x2,x3,xl⟩:=HX.out _ hcur)|(go_at_call 15;refine (HCT.out _ (keep_trans fB hcur)).mono ?_;rintro _ w1 ⟨rfl,hb1⟩;replace hcur:=keep_trans hcur hb1;clear y0 y1 y2 y3 yl;obtain ⟨y0,y1,y2,y3,yl⟩:=HY.out _ hcur;clear x0 x1 x2 x3 xl;obtain ⟨x0,x1,x2,x3,xl⟩:=HX.out _ hcur)|(go_at_call 50;refine (HI.out _ (keep_trans fB hcur)).mono ?_;rintro _ w1 ⟨rfl,hb1⟩;replace hcur:=keep_trans hcur hb1;clear y0 y1 y2 y3 yl;obtain ⟨y0,y1,y2,y3,yl⟩:=HY.out _ hcur;clear x0 x1 x2 x3 xl;obtain ⟨x0,x1,x2,x3,xl⟩:=HX.out _ hcur)|(go_at_call 51;refine (HB.out _ (keep_trans fB hcur)).mono ?_;rintro _ w1 ⟨rfl,hb1⟩;replace hcur:=keep_trans hcur hb1;clear y0 y1 y2 y3 yl;obtain ⟨y0,y1,y2,y3,yl⟩:=HY.out _ hcur;clear x0 x1 x2 x3 xl;obtain ⟨x0,x1,x2,x3,xl⟩:=HX.out _ hcur)|(go_at_call 52;refine (HT.out _ (keep_trans fB hcur)).mono ?_;rintro _ w1 ⟨rfl,hb1⟩;replace hcur:=keep_trans hcur hb1;clear y0 y1 y2 y3 yl;obtain ⟨y0,y1,y2,y3,yl⟩:=HY.out _ hcur;clear x0 x1 x2 x3 xl;obtain ⟨x0,x1,x2,x3,xl⟩:=HX.out _ hcur)|(go_at_call 33;refine (HCF.out _ (keep_trans fB hcur)).mono ?_;rintro _ w1 ⟨rfl,hb1⟩;replace hcur:=keep_trans hcur hb1;clear y0 y1 y2 y3 yl;obtain ⟨y0,y1,y2,y3,yl⟩:=HY.out _ hcur;clear x0 x1 x2 x3 xl;obtain ⟨x0,x1,x2,x3,xl⟩:=HX.out _ hcur)|(go_at_call 34;refine (HIS.out _ (keep_trans fB hcur)).mono ?_;rintro _ w1 ⟨rfl,hb1⟩;replace hcur:=keep_trans hcur hb1;clear y0 y1 y2 y3 yl;obtain ⟨y0,y1,y2,y3,yl⟩:=HY.out _ hcur;clear x0 x1 x2 x3 xl;obtain ⟨x0,x1,x2,x3,xl⟩:=HX.out _ hcur)|(go_at_call 53;refine (HRB.out _ (keep_trans fB hcur)).mono ?_;rintro _ w1 ⟨rfl,hb1⟩;replace hcur:=keep_trans hcur hb1;clear y0 y1 y2 y3 yl;obtain ⟨y0,y1,y2,y3,yl⟩:=HY.out _ hcur;clear x0 x1 x2 x3 xl;obtain ⟨x0,x1,x2,x3,xl⟩:=HX.out _ hcur)|(go_at_call 17;refine (HA.out _).mono ?_;rintro _ w1 ⟨rfl,hb1⟩;replace hcur:=keep_trans hcur hb1))
  go_ret
  exact ⟨rfl,keep_trans fB hcur⟩
 | true =>
  by_cases hnf:(60:Int)<(nf:Int)
  ·skip
   go_wp2_with (first|(go_at_call 14;refine (HS.out _ (keep_trans fB hcur)).mono ?_;rintro _ w1 ⟨rfl,hb1⟩;replace hcur:=keep_trans hcur hb1;clear y0 y1 y2 y3 yl;obtain ⟨y0,y1,y2,y3,yl⟩:=HY.out _ hcur;clear x0 x1 x2 x3 xl;obtain ⟨x0,x1,x2,x3,xl⟩:=HX.out _ hcur)|(go_at_call 15;refine (HCT.out _ (keep_trans fB hcur)).mono ?_;rintro _ w1 ⟨rfl,hb1⟩;replace hcur:=keep_trans hcur hb1;clear y0 y1 y2 y3 yl;obtain ⟨y0,y1,y2,y3,yl⟩:=HY.out _ hcur;clear x0 x1 x2 x3 xl;obtain ⟨x0,x1,x2,x3,xl⟩:=HX.out _ hcur)|(go_at_call 50;refine (HI.out _ (keep_trans fB hcur)).mono ?_;rintro _ w1 ⟨rfl,hb1⟩;replace hcur:=keep_trans hcur hb1;clear y0 y1 y2 y3 yl;obtain ⟨y0,y1,y2,y3,yl⟩:=HY.out _ hcur;clear x0 x1 x2 x3 xl;obtain ⟨x0,x1,x2,x3,xl⟩:=HX.out _ hcur)|(go_at_call 51;refine (HB.out _ (keep_trans fB hcur)).mono ?_;rintro _ w1 ⟨rfl,hb1⟩;replace hcur:=keep_trans hcur hb1;clear y0 y1 y2 y3 yl;obtain ⟨y0,y1,y2,y3,yl⟩:=HY.out _ hcur;clear x0 x1 x2 x3 xl;obtain ⟨x0,x1,x2,x3,xl⟩:=HX.out _ hcur)|(go_at_call 52;refine (HT.out _ (keep_trans fB hcur)).mono ?_;rintro _ w1 ⟨rfl,hb1⟩;replace hcur:=keep_trans hcur hb1;clear y0 y1 y2 y3 yl;obtain ⟨y0,y1,y2,y3,yl⟩:=HY.out _ hcur;clear x0 x1 x2 x3 xl;obtain ⟨x0,x1,x2,x3,xl⟩:=HX.out _ hcur)|(go_at_call 33;refine (HCF.out _ (keep_trans fB hcur)).mono ?_;rintro _ w1 ⟨rfl,hb1⟩;replace hcur:=keep_trans hcur hb1;clear y0 y1 y2 y3 yl;obtain ⟨y0,y1,y2,y3,yl⟩:=HY.out _ hcur;clear x0 x1 x2 x3 xl;obtain ⟨x0,x1,x2,x3,xl⟩:=HX.out _ hcur)|(go_at_call 34;refine (HIS.out _ (keep_trans fB hcur)).mono ?_;rintro _ w1 ⟨rfl,hb1⟩;replace hcur:=keep_trans hcur hb1;clear y0 y1 y2 y3 yl;obtain ⟨y0,y1,y2,y3,yl⟩:=HY.out _ hcur;clear x0 x1 x2 x3 xl;obtain ⟨x0,x1,x2,x3,xl⟩:=HX.out _ hcur)|(go_at_call 53;refine (HRB.out _ (keep_trans fB hcur)).mono ?_;rintro _ w1 ⟨rfl,hb1⟩;replace hcur:=keep_trans hcur hb1;clear y0 y1 y2 y3 yl;obtain ⟨y0,y1,y2,y3,yl⟩:=HY.out _ hcur;clear x0 x1 x2 x3 xl;obtain ⟨x0,x1,x2,x3,xl⟩:=HX.out _ hcur)|(go_at_call 17;refine (HA.out _).mono ?_;rintro _ w1 ⟨rfl,hb1⟩;replace hcur:=keep_trans hcur hb1))
   go_ret
   exact ⟨rfl,keep_trans fB hcur⟩
  ·by_cases he:te=0
   ·replace HIS:=Lib.hid (HIS.out he)
    replace HRB:=Lib.hid (HRB.out he)
    replace HB2:=Lib.hid (HB2.out he)
    replace HB3:=Lib.hid (HB3.out he)
    obtain ⟨rfl,hv1,hv2⟩:=HV2.out he
    have HV3:=Lib.hid hv1
    have HV4:=Lib.hid hv2
    clear HV1 HV2 HB1 hv1 hv2
    subst he
    by_cases hfe:se=0
    ·replace HIS:=Lib.hid (HIS.out hfe)
     obtain rfl:=HV4.out hfe
     subst hfe
     clear HV3 HV4
     cases iv with
     | false =>
      by_cases hl0:line<0
      ·obtain ⟨rfl,rfl,rfl⟩:=HB2.out (Or.inl hl0)
       clear HB2 HB3 HRB
       go_wp2_with (first|(go_at_call 14;refine (HS.out _ (keep_trans fB hcur)).mono ?_;rintro _ w1 ⟨rfl,hb1⟩;replace hcur:=keep_trans hcur hb1;clear y0 y1 y2 y3 yl;obtain ⟨y0,y1,y2,y3,yl⟩:=HY.out _ hcur;clear x0 x1 x2 x3 xl;obtain ⟨x0,x1,x2,x3,xl⟩:=HX.out _ hcur)|(go_at_call 15;refine (HCT.out _ (keep_trans fB hcur)).mono ?_;rintro _ w1 ⟨rfl,hb1⟩;replace hcur:=keep_trans hcur hb1;clear y0 y1 y2 y3 yl;obtain ⟨y0,y1,y2,y3,yl⟩:=HY.out _ hcur;clear x0 x1 x2 x3 xl;obtain ⟨x0,x1,x2,x3,xl⟩:=HX.out _ hcur)|(go_at_call 50;refine (HI.out _ (keep_trans fB hcur)).mono ?_;rintro _ w1 ⟨rfl,hb1⟩;replace hcur:=keep_trans hcur hb1;clear y0 y1 y2 y3 yl;obtain ⟨y0,y1,y2,y3,yl⟩:=HY.out _ hcur;clear x0 x1 x2 x3 xl;obtain ⟨x0,x1,x2,x3,xl⟩:=HX.out _ hcur)|(go_at_call 51;refine (HB.out _ (keep_trans fB hcur)).mono ?_;rintro _ w1 ⟨rfl,hb1⟩;replace hcur:=keep_trans hcur hb1;clear y0 y1 y2 y3 yl;obtain ⟨y0,y1,y2,y3,yl⟩:=HY.out _ hcur;clear x0 x1 x2 x3 xl;obtain ⟨x0,x1,x2,x3,xl⟩:=HX.out _ hcur)|(go_at_call 52;refine (HT.out _ (keep_trans fB hcur)).mono ?_;rintro _ w1 ⟨rfl,hb1⟩;replace hcur:=keep_trans hcur hb1;clear y0 y1 y2 y3 yl;obtain ⟨y0,y1,y2,y3,yl⟩:=HY.out _ hcur;clear x0 x1 x2 x3 xl;obtain ⟨x0,x1,x2,x3,xl⟩:=HX.out _ hcur)|(go_at_call 33;refine (HCF.out _ (keep_trans fB hcur)).mono ?_;rintro _ w1 ⟨rfl,hb1⟩;replace hcur:=keep_trans hcur hb1;clear y0 y1 y2 y3 yl;obtain ⟨y0,y1,y2,y3,yl⟩:=HY.out _ hcur;clear x0 x1 x2 x3 xl;obtain ⟨x0,x1,x2,x3,xl⟩:=HX.out _ hcur)|(go_at_call 34;refine (HIS.out _ (keep_trans fB hcur)).mono ?_;rintro _ w1 ⟨rfl,hb1⟩;replace hcur:=keep_trans hcur hb1;clear y0 y1 y2 y3 yl;obtain ⟨y0,y1,y2,y3,yl⟩:=HY.out _ hcur;clear x0 x1 x2 x3 xl;obtain ⟨x0,x1,x2,x3,xl⟩:=HX.out _ hcur)|(go_at_call 53;refine (HRB.out _ (keep_trans fB hcur)).mono ?_;rintro _ w1 ⟨rfl,hb1⟩;replace hcur:=keep_trans hcur hb1;clear y0 y1 y2 y3 yl;obtain ⟨y0,y1,y2,y3,yl⟩:=HY.out _ hcur;clear x0 x1 x2 x3 xl;obtain ⟨x0,x1,x2,x3,xl⟩:=HX.out _ hcur)|(go_at_call 17;refine (HA.out _).mono ?_;rintro _ w1 ⟨rfl,hb1⟩;replace hcur:=keep_trans hcur hb1))
       go_ret
       exact ⟨rfl,keep_trans fB hcur⟩
      ·by_cases hl1:(n:Int)≤line
       ·obtain ⟨rfl,rfl,rfl⟩:=HB2.out (Or.inr hl1)
        clear HB2 HB3 HRB
        go_wp2_with (first|(go_at_call 14;refine (HS.out _ (keep_trans fB hcur)).mono ?_;rintro _ w1 ⟨rfl,hb1⟩;replace hcur:=keep_trans hcur hb1;clear y0 y1 y2 y3 yl;obtain ⟨y0,y1,y2,y3,yl⟩:=HY.out _ hcur;clear x0 x1 x2 x3 xl;obtain ⟨x0,x1,x2,x3,xl⟩:=HX.out _ hcur)|(go_at_call 15;refine (HCT.out _ (keep_trans fB hcur)).mono ?_;rintro _ w1 ⟨rfl,hb1⟩;replace hcur:=keep_trans hcur hb1;clear y0 y1 y2 y3 yl;obtain ⟨y0,y1,y2,y3,yl⟩:=HY.out _ hcur;clear x0 x1 x2 x3 xl;obtain ⟨x0,x1,x2,x3,xl⟩:=HX.out _ hcur)|(go_at_call 50;refine (HI.out _ (keep_trans fB hcur)).mono ?_;rintro _ w1 ⟨rfl,hb1⟩;replace hcur:=keep_trans hcur hb1;clear y0 y1 y2 y3 yl;obtain ⟨y0,y1,y2,y3,yl⟩:=HY.out _ hcur;clear x0 x1 x2 x3 xl;obtain ⟨x0,x1,x2,x3,xl⟩:=HX.out _ hcur)|(go_at_call 51;refine (HB.out _ (keep_trans fB hcur)).mono ?_;rintro _ w1 ⟨rfl,hb1⟩;replace hcur:=keep_trans hcur hb1;clear y0 y1 y2 y3 yl;obtain ⟨y0,y1,y2,y3,yl⟩:=HY.out _ hcur;clear x0 x1 x2 x3 xl;obtain ⟨x0,x1,x2,x3,xl⟩:=HX.out _ hcur)|(go_at_call 52;refine (HT.out _ (keep_trans fB hcur)).mono ?_;rintro _ w1 ⟨rfl,hb1⟩;replace hcur:=keep_trans hcur hb1;clear y0 y1 y2 y3 yl;obtain ⟨y0,y1,y2,y3,yl⟩:=HY.out _ hcur;clear x0 x1 x2 x3 xl;obtain ⟨x0,x1,x2,x3,xl⟩:=HX.out _ hcur)|(go_at_call 33;refine (HCF.out _ (keep_trans fB hcur)).mono ?_;rintro _ w1 ⟨rfl,hb1⟩;replace hcur:=keep_trans hcur hb1;clear y0 y1 y2 y3 yl;obtain ⟨y0,y1,y2,y3,yl⟩:=HY.out _ hcur;clear x0 x1 x2 x3 xl;obtain ⟨x0,x1,x2,x3,xl⟩:=HX.out _ hcur)|(go_at_call 34;refine (HIS.out _ (keep_trans fB hcur)).mono ?_;rintro _ w1 ⟨rfl,hb1⟩;replace hcur:=keep_trans hcur hb1;clear y0 y1 y2 y3 yl;obtain ⟨y0,y1,y2,y3,yl⟩:=HY.out _ hcur;clear x0 x1 x2 x3 xl;obtain ⟨x0,x1,x2,x3,xl⟩:=HX.out _ hcur)|(go_at_call 53;refine (HRB.out _ (keep_trans fB hcur)).mono ?_;rintro _ w1 ⟨rfl,hb1⟩;replace hcur:=keep_trans hcur hb1;clear y0 y1 y2 y3 yl;obtain ⟨y0,y1,y2,y3,yl⟩:=HY.out _ hcur;clear x0 x1 x2 x3 xl;obtain ⟨x0,x1,x2,x3,xl⟩:=HX.out _ hcur)|(go_at_call 17;refine (HA.out _).mono ?_;rintro _ w1 ⟨rfl,hb1⟩;replace hcur:=keep_trans hcur hb1))
        go_ret
        exact ⟨rfl,keep_trans fB hcur⟩
       ·obtain ⟨k,rfl⟩:=Int.eq_ofNat_of_zero_le (show 0≤line by omega)
        obtain ⟨rfl,rfl,rfl⟩:=HB3.out k (by omega) rfl
        replace HRB:=Lib.hid (HRB.out k (by omega))
        clear HB2 HB3
        generalize lowV (ls[k]?.getD []) g (unusedL g)=lo at HB HRB
        generalize highV (ls[k]?.getD []) g (unusedL g)=hi at HB HRB
        go_wp2_with (first|(go_at_call 14;refine (HS.out _ (keep_trans fB hcur)).mono ?_;rintro _ w1 ⟨rfl,hb1⟩;replace hcur:=keep_trans hcur hb1;clear y0 y1 y2 y3 yl;obtain ⟨y0,y1,y2,y3,yl⟩:=HY.out _ hcur;clear x0 x1 x2 x3 xl;obtain ⟨x0,x1,x2,x3,xl⟩:=HX.out _ hcur)|(go_at_call 15;refine (HCT.out _ (keep_trans fB hcur)).mono ?_;rintro _ w1 ⟨rfl,hb1⟩;replace hcur:=keep_trans hcur hb1;clear y0 y1 y2 y3 yl;obtain ⟨y0,y1,y2,y3,yl⟩:=HY.out _ hcur;clear x0 x1 x2 x3 xl;obtain ⟨x0,x1,x2,x3,xl⟩:=HX.out _ hcur)|(go_at_call 50;refine (HI.out _ (keep_trans fB hcur)).mono ?_;rintro _ w1 ⟨rfl,hb1⟩;replace hcur:=keep_trans hcur hb1;clear y0 y1 y2 y3 yl;obtain ⟨y0,y1,y2,y3,yl⟩:=HY.out _ hcur;clear x0 x1 x2 x3 xl;obtain ⟨x0,x1,x2,x3,xl⟩:=HX.out _ hcur)|(go_at_call 51;refine (HB.out _ (keep_trans fB hcur)).mono ?_;rintro _ w1 ⟨rfl,hb1⟩;replace hcur:=keep_trans hcur hb1;clear y0 y1 y2 y3 yl;obtain ⟨y0,y1,y2,y3,yl⟩:=HY.out _ hcur;clear x0 x1 x2 x3 xl;obtain ⟨x0,x1,x2,x3,xl⟩:=HX.out _ hcur)|(go_at_call 52;refine (HT.out _ (keep_trans fB hcur)).mono ?_;rintro _ w1 ⟨rfl,hb1⟩;replace hcur:=keep_trans hcur hb1;clear y0 y1 y2 y3 yl;obtain ⟨y0,y1,y2,y3,yl⟩:=HY.out _ hcur;clear x0 x1 x2 x3 xl;obtain ⟨x0,x1,x2,x3,xl⟩:=HX.out _ hcur)|(go_at_call 33;refine (HCF.out _ (keep_trans fB hcur)).mono ?_;rintro _ w1 ⟨rfl,hb1⟩;replace hcur:=keep_trans hcur hb1;clear y0 y1 y2 y3 yl;obtain ⟨y0,y1,y2,y3,yl⟩:=HY.out _ hcur;clear x0 x1 x2 x3 xl;obtain ⟨x0,x1,x2,x3,xl⟩:=HX.out _ hcur)|(go_at_call 34;refine (HIS.out _ (keep_trans fB hcur)).mono ?_;rintro _ w1 ⟨rfl,hb1⟩;replace hcur:=keep_trans hcur hb1;clear y0 y1 y2 y3 yl;obtain ⟨y0,y1,y2,y3,yl⟩:=HY.out _ hcur;clear x0 x1 x2 x3 xl;obtain ⟨x0,x1,x2,x3,xl⟩:=HX.out _ hcur)|(go_at_call 53;refine (HRB.out _ (keep_trans fB hcur)).mono ?_;rintro _ w1 ⟨rfl,hb1⟩;replace hcur:=keep_trans hcur hb1;clear y0 y1 y2 y3 yl;obtain ⟨y0,y1,y2,y3,yl⟩:=HY.out _ hcur;clear x0 x1 x2 x3 xl;obtain ⟨x0,x1,x2,x3,xl⟩:=HX.out _ hcur)|(go_at_call 17;refine (HA.out _).mono ?_;rintro _ w1 ⟨rfl,hb1⟩;replace hcur:=keep_trans hcur hb1))
        go_ret
        exact ⟨rfl,keep_trans fB hcur⟩
     | true =>
      by_cases hl0:line<0
      ·obtain ⟨rfl,rfl,rfl⟩:=HB2.out (Or.inl hl0)
       clear HB2 HB3 HRB
       go_wp2_with (first|(go_at_call 14;refine (HS.out _ (keep_trans fB hcur)).mono ?_;rintro _ w1 ⟨rfl,hb1⟩;replace hcur:=keep_trans hcur hb1;clear y0 y1 y2 y3 yl;obtain ⟨y0,y1,y2,y3,yl⟩:=HY.out _ hcur;clear x0 x1 x2 x3 xl;obtain ⟨x0,x1,x2,x3,xl⟩:=HX.out _ hcur)|(go_at_call 15;refine (HCT.out _ (keep_trans fB hcur)).mono ?_;rintro _ w1 ⟨rfl,hb1⟩;replace hcur:=keep_trans hcur hb1;clear y0 y1 y2 y3 yl;obtain ⟨y0,y1,y2,y3,yl⟩:=HY.out _ hcur;clear x0 x1 x2 x3 xl;obtain ⟨x0,x1,x2,x3,xl⟩:=HX.out _ hcur)|(go_at_call 50;refine (HI.out _ (keep_trans fB hcur)).mono ?_;rintro _ w1 ⟨rfl,hb1⟩;replace hcur:=keep_trans hcur hb1;clear y0 y1 y2 y3 yl;obtain ⟨y0,y1,y2,y3,yl⟩:=HY.out _ hcur;clear x0 x1 x2 x3 xl;obtain ⟨x0,x1,x2,x3,xl⟩:=HX.out _ hcur)|(go_at_call 51;refine (HB.out _ (keep_trans fB hcur)).mono ?_;rintro _ w1 ⟨rfl,hb1⟩;replace hcur:=keep_trans hcur hb1;clear y0 y1 y2 y3 yl;obtain ⟨y0,y1,y2,y3,yl⟩:=HY.out _ hcur;clear x0 x1 x2 x3 xl;obtain ⟨x0,x1,x2,x3,xl⟩:=HX.out _ hcur)|(go_at_call 52;refine (HT.out _ (keep_trans fB hcur)).mono ?_;rintro _ w1 ⟨rfl,hb1⟩;replace hcur:=keep_trans hcur hb1;clear y0 y1 y2 y3 yl;obtain ⟨y0,y1,y2,y3,yl⟩:=HY.out _ hcur;clear x0 x1 x2 x3 xl;obtain ⟨x0,x1,x2,x3,xl⟩:=HX.out _ hcur)|(go_at_call 33;refine (HCF.out _ (keep_trans fB hcur)).mono ?_;rintro _ w1 ⟨rfl,hb1⟩;replace hcur:=keep_trans hcur hb1;clear y0 y1 y2 y3 yl;obtain ⟨y0,y1,y2,y3,yl⟩:=HY.out _ hcur;clear x0 x1 x2 x3 xl;obtain ⟨x0,x1,x2,x3,xl⟩:=HX.out _ hcur)|(go_at_call 34;refine (HIS.out _ (keep_trans fB hcur)).mono ?_;rintro _ w1 ⟨rfl,hb1⟩;replace hcur:=keep_trans hcur hb1;clear y0 y1 y2 y3 yl;obtain ⟨y0,y1,y2,y3,yl⟩:=HY.out _ hcur;clear x0 x1 x2 x3 xl;obtain ⟨x0,x1,x2,x3,xl⟩:=HX.out _ hcur)|(go_at_call 53;refine (HRB.out _ (keep_trans fB hcur)).mono ?_;rintro _ w1 ⟨rfl,hb1⟩;replace hcur:=keep_trans hcur hb1;clear y0 y1 y2 y3 yl;obtain ⟨y0,y1,y2,y3,yl⟩:=HY.out _ hcur;clear x0 x1 x2 x3 xl;obtain ⟨x0,x1,x2,x3,xl⟩:=HX.out _ hcur)|(go_at_call 17;refine (HA.out _).mono ?_;rintro _ w1 ⟨rfl,hb1⟩;replace hcur:=keep_trans hcur hb1))
       go_ret
       exact ⟨rfl,keep_trans fB hcur⟩
      ·by_cases hl1:(n:Int)≤line
       ·obtain ⟨rfl,rfl,rfl⟩:=HB2.out (Or.inr hl1)
        clear HB2 HB3 HRB
        go_wp2_with (first|(go_at_call 14;refine (HS.out _ (keep_trans fB hcur)).mono ?_;rintro _ w1 ⟨rfl,hb1⟩;replace hcur:=keep_trans hcur hb1;clear y0 y1 y2 y3 yl;obtain ⟨y0,y1,y2,y3,yl⟩:=HY.out _ hcur;clear x0 x1 x2 x3 xl;obtain ⟨x0,x1,x2,x3,xl⟩:=HX.out _ hcur)|(go_at_call 15;refine (HCT.out _ (keep_trans fB hcur)).mono ?_;rintro _ w1 ⟨rfl,hb1⟩;replace hcur:=keep_trans hcur hb1;clear y0 y1 y2 y3 yl;obtain ⟨y0,y1,y2,y3,yl⟩:=HY.out _ hcur;clear x0 x1 x2 x3 xl;obtain ⟨x0,x1,x2,x3,xl⟩:=HX.out _ hcur)|(go_at_call 50;refine (HI.out _ (keep_trans fB hcur)).mono ?_;rintro _ w1 ⟨rfl,hb1⟩;replace hcur:=keep_trans hcur hb1;clear y0 y1 y2 y3 yl;obtain ⟨y0,y1,y2,y3,yl⟩:=HY.out _ hcur;clear x0 x1 x2 x3 xl;obtain ⟨x0,x1,x2,x3,xl⟩:=HX.out _ hcur)|(go_at_call 51;refine (HB.out _ (keep_trans fB hcur)).mono ?_;rintro _ w1 ⟨rfl,hb1⟩;replace hcur:=keep_trans hcur hb1;clear y0 y1 y2 y3 yl;obtain ⟨y0,y1,y2,y3,yl⟩:=HY.out _ hcur;clear x0 x1 x2 x3 xl;obtain ⟨x0,x1,x2,x3,xl⟩:=HX.out _ hcur)|(go_at_call 52;refine (HT.out _ (keep_trans fB hcur)).mono ?_;rintro _ w1 ⟨rfl,hb1⟩;replace hcur:=keep_trans hcur hb1;clear y0 y1 y2 y3 yl;obtain ⟨y0,y1,y2,y3,yl⟩:=HY.out _ hcur;clear x0 x1 x2 x3 xl;obtain ⟨x0,x1,x2,x3,xl⟩:=HX.out _ hcur)|(go_at_call 33;refine (HCF.out _ (keep_trans fB hcur)).mono ?_;rintro _ w1 ⟨rfl,hb1⟩;replace hcur:=keep_trans hcur hb1;clear y0 y1 y2 y3 yl;obtain ⟨y0,y1,y2,y3,yl⟩:=HY.out _ hcur;clear x0 x1 x2 x3 xl;obtain ⟨x0,x1,x2,x3,xl⟩:=HX.out _ hcur)|(go_at_call 34;refine (HIS.out _ (keep_trans fB hcur)).mono ?_;rintro _ w1 ⟨rfl,hb1⟩;replace hcur:=keep_trans hcur hb1;clear y0 y1 y2 y3 yl;obtain ⟨y0,y1,y2,y3,yl⟩:=HY.out _ hcur;clear x0 x1 x2 x3 xl;obtain ⟨x0,x1,x2,x3,xl⟩:=HX.out _ hcur)|(go_at_call 53;refine (HRB.out _ (keep_trans fB hcur)).mono ?_;rintro _ w1 ⟨rfl,hb1⟩;replace hcur:=keep_trans hcur hb1;clear y0 y1 y2 y3 yl;obtain ⟨y0,y1,y2,y3,yl⟩:=HY.out _ hcur;clear x0 x1 x2 x3 xl;obtain ⟨x0,x1,x2,x3,xl⟩:=HX.out _ hcur)|(go_at_call 17;refine (HA.out _).mono ?_;rintro _ w1 ⟨rfl,hb1⟩;replace hcur:=keep_trans hcur hb1))
        go_ret
        exact ⟨rfl,keep_trans fB hcur⟩
       ·obtain ⟨k,rfl⟩:=Int.eq_ofNat_of_zero_le (show 0≤line by omega)
        obtain ⟨rfl,rfl,rfl⟩:=HB3.out k (by omega) rfl
        replace HRB:=Lib.hid (HRB.out k (by omega))
        clear HB2 HB3
        generalize lowV (ls[k]?.getD []) g (unusedL g)=lo at HB HRB
        generalize highV (ls[k]?.getD []) g (unusedL g)=hi at HB HRB
        go_wp2_with (first|(go_at_call 14;refine (HS.out _ (keep_trans fB hcur)).mono ?_;rintro _ w1 ⟨rfl,hb1⟩;replace hcur:=keep_trans hcur hb1;clear y0 y1 y2 y3 yl;obtain ⟨y0,y1,y2,y3,yl⟩:=HY.out _ hcur;clear x0 x1 x2 x3 xl;obtain ⟨x0,x1,x2,x3,xl⟩:=HX.out _ hcur)|(go_at_call 15;refine (HCT.out _ (keep_trans fB hcur)).mono ?_;rintro _ w1 ⟨rfl,hb1⟩;replace hcur:=keep_trans hcur hb1;clear y0 y1 y2 y3 yl;obtain ⟨y0,y1,y2,y3,yl⟩:=HY.out _ hcur;clear x0 x1 x2 x3 xl;obtain ⟨x0,x1,x2,x3,xl⟩:=HX.out _ hcur)|(go_at_call 50;refine (HI.out _ (keep_trans fB hcur)).mono ?_;rintro _ w1 ⟨rfl,hb1⟩;replace hcur:=keep_trans hcur hb1;clear y0 y1 y2 y3 yl;obtain ⟨y0,y1,y2,y3,yl⟩:=HY.out _ hcur;clear x0 x1 x2 x3 xl;obtain ⟨x0,x1,x2,x3,xl⟩:=HX.out _ hcur)|(go_at_call 51;refine (HB.out _ (keep_trans fB hcur)).mono ?_;rintro _ w1 ⟨rfl,hb1⟩;replace hcur:=keep_trans hcur hb1;clear y0 y1 y2 y3 yl;obtain ⟨y0,y1,y2,y3,yl⟩:=HY.out _ hcur;clear x0 x1 x2 x3 xl;obtain ⟨x0,x1,x2,x3,xl⟩:=HX.out _ hcur)|(go_at_call 52;refine (HT.out _ (keep_trans fB hcur)).mono ?_;rintro _ w1 ⟨rfl,hb1⟩;replace hcur:=keep_trans hcur hb1;clear y0 y1 y2 y3 yl;obtain ⟨y0,y1,y2,y3,yl⟩:=HY.out _ hcur;clear x0 x1 x2 x3 xl;obtain ⟨x0,x1,x2,x3,xl⟩:=HX.out _ hcur)|(go_at_call 33;refine (HCF.out _ (keep_trans fB hcur)).mono ?_;rintro _ w1 ⟨rfl,hb1⟩;replace hcur:=keep_trans hcur hb1;clear y0 y1 y2 y3 yl;obtain ⟨y0,y1,y2,y3,yl⟩:=HY.out _ hcur;clear x0 x1 x2 x3 xl;obtain ⟨x0,x1,x2,x3,xl⟩:=HX.out _ hcur)|(go_at_call 34;refine (HIS.out _ (keep_trans fB hcur)).mono ?_;rintro _ w1 ⟨rfl,hb1⟩;replace hcur:=keep_trans hcur hb1;clear y0 y1 y2 y3 yl;obtain ⟨y0,y1,y2,y3,yl⟩:=HY.out _ hcur;clear x0 x1 x2 x3 xl;obtain ⟨x0,x1,x2,x3,xl⟩:=HX.out _ hcur)|(go_at_call 53;refine (HRB.out _ (keep_trans fB hcur)).mono ?_;rintro _ w1 ⟨rfl,hb1⟩;replace hcur:=keep_trans hcur hb1;clear y0 y1 y2 y3 yl;obtain ⟨y0,y1,y2,y3,yl⟩:=HY.out _ hcur;clear x0 x1 x2 x3 xl;obtain ⟨x0,x1,x2,x3,xl⟩:=HX.out _ hcur)|(go_at_call 17;refine (HA.out _).mono ?_;rintro _ w1 ⟨rfl,hb1⟩;replace hcur:=keep_trans hcur hb1))
        go_ret
        exact ⟨rfl,keep_trans fB hcur⟩
    ·have hfe2:(se==0)=false:=by simpa using hfe
     obtain rfl:=HV3.out hfe
     clear HV3 HV4 HIS hfe
     by_cases hl0:line<0
     ·obtain ⟨rfl,rfl,rfl⟩:=HB2.out (Or.inl hl0)
      clear HB2 HB3 HRB
      go_wp2_with (first|(go_at_call 14;refine (HS.out _ (keep_trans fB hcur)).mono ?_;rintro _ w1 ⟨rfl,hb1⟩;replace hcur:=keep_trans hcur hb1;clear y0 y1 y2 y3 yl;obtain ⟨y0,y1,y2,y3,yl⟩:=HY.out _ hcur;clear x0 x1 x2 x3 xl;obtain ⟨x0,x1,x2,x3,xl⟩:=HX.out _ hcur)|(go_at_call 15;refine (HCT.out _ (keep_trans fB hcur)).mono ?_;rintro _ w1 ⟨rfl,hb1⟩;replace hcur:=keep_trans hcur hb1;clear y0 y1 y2 y3 yl;obtain ⟨y0,y1,y2,y3,yl⟩:=HY.out _ hcur;clear x0 x1 x2 x3 xl;obtain ⟨x0,x1,x2,x3,xl⟩:=HX.out _ hcur)|(go_at_call 50;refine (HI.out _ (keep_trans fB hcur)).mono ?_;rintro _ w1 ⟨rfl,hb1⟩;replace hcur:=keep_trans hcur hb1;clear y0 y1 y2 y3 yl;obtain ⟨y0,y1,y2,y3,yl⟩:=HY.out _ hcur;clear x0 x1 x2 x3 xl;obtain ⟨x0,x1,x2,x3,xl⟩:=HX.out _ hcur)|(go_at_call 51;refine (HB.out _ (keep_trans fB hcur)).mono ?_;rintro _ w1 ⟨rfl,hb1⟩;replace hcur:=keep_trans hcur hb1;clear y0 y1 y2 y3 yl;obtain ⟨y0,y1,y2,y3,yl⟩:=HY.out _ hcur;clear x0 x1 x2 x3 xl;obtain ⟨x0,x1,x2,x3,xl⟩:=HX.out _ hcur)|(go_at_call 52;refine (HT.out _ (keep_trans fB hcur)).mono ?_;rintro _ w1 ⟨rfl,hb1⟩;replace hcur:=keep_trans hcur hb1;clear y0 y1 y2 y3 yl;obtain ⟨y0,y1,y2,y3,yl⟩:=HY.out _ hcur;clear x0 x1 x2 x3 xl;obtain ⟨x0,x1,x2,x3,xl⟩:=HX.out _ hcur)|(go_at_call 33;refine (HCF.out _ (keep_trans fB hcur)).mono ?_;rintro _ w1 ⟨rfl,hb1⟩;replace hcur:=keep_trans hcur hb1;clear y0 y1 y2 y3 yl;obtain ⟨y0,y1,y2,y3,yl⟩:=HY.out _ hcur;clear x0 x1 x2 x3 xl;obtain ⟨x0,x1,x2,x3,xl⟩:=HX.out _ hcur)|(go_at_call 34;refine (HIS.out _ (keep_trans fB hcur)).mono ?_;rintro _ w1 ⟨rfl,hb1⟩;replace hcur:=keep_trans hcur hb1;clear y0 y1 y2 y3 yl;obtain ⟨y0,y1,y2,y3,yl⟩:=HY.out _ hcur;clear x0 x1 x2 x3 xl;obtain ⟨x0,x1,x2,x3,xl⟩:=HX.out _ hcur)|(go_at_call 53;refine (HRB.out _ (keep_trans fB hcur)).mono ?_;rintro _ w1 ⟨rfl,hb1⟩;replace hcur:=keep_trans hcur hb1;clear y0 y1 y2 y3 yl;obtain ⟨y0,y1,y2,y3,yl⟩:=HY.out _ hcur;clear x0 x1 x2 x3 xl;obtain ⟨x0,x1,x2,x3,xl⟩:=HX.out _ hcur)|(go_at_call 17;refine (HA.out _).mono ?_;rintro _ w1 ⟨rfl,hb1⟩;replace hcur:=keep_trans hcur hb1))
      go_ret
      exact ⟨rfl,keep_trans fB hcur⟩
     ·by_cases hl1:(n:Int)≤line
      ·obtain ⟨rfl,rfl,rfl⟩:=HB2.out (Or.inr hl1)
       clear HB2 HB3 HRB
       go_wp2_with (first|(go_at_call 14;refine (HS.out _ (keep_trans fB hcur)).mono ?_;rintro _ w1 ⟨rfl,hb1⟩;replace hcur:=keep_trans hcur hb1;clear y0 y1 y2 y3 yl;obtain ⟨y0,y1,y2,y3,yl⟩:=HY.out _ hcur;clear x0 x1 x2 x3 xl;obtain ⟨x0,x1,x2,x3,xl⟩:=HX.out _ hcur)|(go_at_call 15;refine (HCT.out _ (keep_trans fB hcur)).mono ?_;rintro _ w1 ⟨rfl,hb1⟩;replace hcur:=keep_trans hcur hb1;clear y0 y1 y2 y3 yl;obtain ⟨y0,y1,y2,y3,yl⟩:=HY.out _ hcur;clear x0 x1 x2 x3 xl;obtain ⟨x0,x1,x2,x3,xl⟩:=HX.out _ hcur)|(go_at_call 50;refine (HI.out _ (keep_trans fB hcur)).mono ?_;rintro _ w1 ⟨rfl,hb1⟩;replace hcur:=keep_trans hcur hb1;clear y0 y1 y2 y3 yl;obtain ⟨y0,y1,y2,y3,yl⟩:=HY.out _ hcur;clear x0 x1 x2 x3 xl;obtain ⟨x0,x1,x2,x3,xl⟩:=HX.out _ hcur)|(go_at_call 51;refine (HB.out _ (keep_trans fB hcur)).mono ?_;rintro _ w1 ⟨rfl,hb1⟩;replace hcur:=keep_trans hcur hb1;clear y0 y1 y2 y3 yl;obtain ⟨y0,y1,y2,y3,yl⟩:=HY.out _ hcur;clear x0 x1 x2 x3 xl;obtain ⟨x0,x1,x2,x3,xl⟩:=HX.out _ hcur)|(go_at_call 52;refine (HT.out _ (keep_trans fB hcur)).mono ?_;rintro _ w1 ⟨rfl,hb1⟩;replace hcur:=keep_trans hcur hb1;clear y0 y1 y2 y3 yl;obtain ⟨y0,y1,y2,y3,yl⟩:=HY.out _ hcur;clear x0 x1 x2 x3 xl;obtain ⟨x0,x1,x2,x3,xl⟩:=HX.out _ hcur)|(go_at_call 33;refine (HCF.out _ (keep_trans fB hcur)).mono ?_;rintro _ w1 ⟨rfl,hb1⟩;replace hcur:=keep_trans hcur hb1;clear y0 y1 y2 y3 yl;obtain ⟨y0,y1,y2,y3,yl⟩:=HY.out _ hcur;clear x0 x1 x2 x3 xl;obtain ⟨x0,x1,x2,x3,xl⟩:=HX.out _ hcur)|(go_at_call 34;refine (HIS.out _ (keep_trans fB hcur)).mono ?_;rintro _ w1 ⟨rfl,hb1⟩;replace hcur:=keep_trans hcur hb1;clear y0 y1 y2 y3 yl;obtain ⟨y0,y1,y2,y3,yl⟩:=HY.out _ hcur;clear x0 x1 x2 x3 xl;obtain ⟨x0,x1,x2,x3,xl⟩:=HX.out _ hcur)|(go_at_call 53;refine (HRB.out _ (keep_trans fB hcur)).mono ?_;rintro _ w1 ⟨rfl,hb1⟩;replace hcur:=keep_trans hcur hb1;clear y0 y1 y2 y3 yl;obtain ⟨y0,y1,y2,y3,yl⟩:=HY.out _ hcur;clear x0 x1 x2 x3 xl;obtain ⟨x0,x1,x2,x3,xl⟩:=HX.out _ hcur)|(go_at_call 17;refine (HA.out _).mono ?_;rintro _ w1 ⟨rfl,hb1⟩;replace hcur:=keep_trans hcur hb1))
       go_ret
       exact ⟨rfl,keep_trans fB hcur⟩
      ·obtain ⟨k,rfl⟩:=Int.eq_ofNat_of_zero_le (show 0≤line by omega)
       obtain ⟨rfl,rfl,rfl⟩:=HB3.out k (by omega) rfl
       replace HRB:=Lib.hid (HRB.out k (by omega))
       clear HB2 HB3
       generalize lowV (ls[k]?.getD []) g (unusedL g)=lo at HB HRB
       generalize highV (ls[k]?.getD []) g (unusedL g)=hi at HB HRB
       go_wp2_with (first|(go_at_call 14;refine (HS.out _ (keep_trans fB hcur)).mono ?_;rintro _ w1 ⟨rfl,hb1⟩;replace hcur:=keep_trans hcur hb1;clear y0 y1 y2 y3 yl;obtain ⟨y0,y1,y2,y3,yl⟩:=HY.out _ hcur;clear x0 x1 x2 x3 xl;obtain ⟨x0,x1,x2,x3,xl⟩:=HX.out _ hcur)|(go_at_call 15;refine (HCT.out _ (keep_trans fB hcur)).mono ?_;rintro _ w1 ⟨rfl,hb1⟩;replace hcur:=keep_trans hcur hb1;clear y0 y1 y2 y3 yl;obtain ⟨y0,y1,y2,y3,yl⟩:=HY.out _ hcur;clear x0 x1 x2 x3 xl;obtain ⟨x0,x1,x2,x3,xl⟩:=HX.out _ hcur)|(go_at_call 50;refine (HI.out _ (keep_trans fB hcur)).mono ?_;rintro _ w1 ⟨rfl,hb1⟩;replace hcur:=keep_trans hcur hb1;clear y0 y1 y2 y3 yl;obtain ⟨y0,y1,y2,y3,yl⟩:=HY.out _ hcur;clear x0 x1 x2 x3 xl;obtain ⟨x0,x1,x2,x3,xl⟩:=HX.out _ hcur)|(go_at_call 51;refine (HB.out _ (keep_trans fB hcur)).mono ?_;rintro _ w1 ⟨rfl,hb1⟩;replace hcur:=keep_trans hcur hb1;clear y0 y1 y2 y3 yl;obtain ⟨y0,y1,y2,y3,yl⟩:=HY.out _ hcur;clear x0 x1 x2 x3 xl;obtain ⟨x0,x1,x2,x3,xl⟩:=HX.out _ hcur)|(go_at_call 52;refine (HT.out _ (keep_trans fB hcur)).mono ?_;rintro _ w1 ⟨rfl,hb1⟩;replace hcur:=keep_trans hcur hb1;clear y0 y1 y2 y3 yl;obtain ⟨y0,y1,y2,y3,yl⟩:=HY.out _ hcur;clear x0 x1 x2 x3 xl;obtain ⟨x0,x1,x2,x3,xl⟩:=HX.out _ hcur)|(go_at_call 33;refine (HCF.out _ (keep_trans fB hcur)).mono ?_;rintro _ w1 ⟨rfl,hb1⟩;replace hcur:=keep_trans hcur hb1;clear y0 y1 y2 y3 yl;obtain ⟨y0,y1,y2,y3,yl⟩:=HY.out _ hcur;clear x0 x1 x2 x3 xl;obtain ⟨x0,x1,x2,x3,xl⟩:=HX.out _ hcur)|(go_at_call 34;refine (HIS.out _ (keep_trans fB hcur)).mono ?_;rintro _ w1 ⟨rfl,hb1⟩;replace hcur:=keep_trans hcur hb1;clear y0 y1 y2 y3 yl;obtain ⟨y0,y1,y2,y3,yl⟩:=HY.out _ hcur;clear x0 x1 x2 x3 xl;obtain ⟨x0,x1,x2,x3,xl⟩:=HX.out _ hcur)|(go_at_call 53;refine (HRB.out _ (keep_trans fB hcur)).mono ?_;rintro _ w1 ⟨rfl,hb1⟩;replace hcur:=keep_trans hcur hb1;clear y0 y1 y2 y3 yl;obtain ⟨y0,y1,y2,y3,yl⟩:=HY.out _ hcur;clear x0 x1 x2 x3 xl;obtain ⟨x0,x1,x2,x3,xl⟩:=HX.out _ hcur)|(go_at_call 17;refine (HA.out _).mono ?_;rintro _ w1 ⟨rfl,hb1⟩;replace hcur:=keep_trans hcur hb1))
       go_ret
       exact ⟨rfl,keep_trans fB hcur⟩
   ·have hne:(te != 0)=true:=by simpa using he
    obtain ⟨rfl,rfl⟩:=HV1.out he
    obtain ⟨rfl,rfl,rfl⟩:=HB1.out he
    clear HV1 HV2 HB1 HB2 HB3 HIS HRB he
    go_wp2_with (first|(go_at_call 14;refine (HS.out _ (keep_trans fB hcur)).mono ?_;rintro _ w1 ⟨rfl,hb1⟩;replace hcur:=keep_trans hcur hb1;clear y0 y1 y2 y3 yl;obtain ⟨y0,y1,y2,y3,yl⟩:=HY.out _ hcur;clear x0 x1 x2 x3 xl;obtain ⟨x0,x1,x2,x3,xl⟩:=HX.out _ hcur)|(go_at_call 15;refine (HCT.out _ (keep_trans fB hcur)).mono ?_;rintro _ w1 ⟨rfl,hb1⟩;replace hcur:=keep_trans hcur hb1;clear y0 y1 y2 y3 yl;obtain ⟨y0,y1,y2,y3,yl⟩:=HY.out _ hcur;clear x0 x1 x2 x3 xl;obtain ⟨x0,x1,x2,x3,xl⟩:=HX.out _ hcur)|(go_at_call 50;refine (HI.out _ (keep_trans fB hcur)).mono ?_;rintro _ w1 ⟨rfl,hb1⟩;replace hcur:=keep_trans hcur hb1;clear y0 y1 y2 y3 yl;obtain ⟨y0,y1,y2,y3,yl⟩:=HY.out _ hcur;clear x0 x1 x2 x3 xl;obtain ⟨x0,x1,x2,x3,xl⟩:=HX.out _ hcur)|(go_at_call 51;refine (HB.out _ (keep_trans fB hcur)).mono ?_;rintro _ w1 ⟨rfl,hb1⟩;replace hcur:=keep_trans hcur hb1;clear y0 y1 y2 y3 yl;obtain ⟨y0,y1,y2,y3,yl⟩:=HY.out _ hcur;clear x0 x1 x2 x3 xl;obtain ⟨x0,x1,x2,x3,xl⟩:=HX.out _ hcur)|(go_at_call 52;refine (HT.out _ (keep_trans fB hcur)).mono ?_;rintro _ w1 ⟨rfl,hb1⟩;replace hcur:=keep_trans hcur hb1;clear y0 y1 y2 y3 yl;obtain ⟨y0,y1,y2,y3,yl⟩:=HY.out _ hcur;clear x0 x1 x2 x3 xl;obtain ⟨x0,x1,x2,x3,xl⟩:=HX.out _ hcur)|(go_at_call 33;refine (HCF.out _ (keep_trans fB hcur)).mono ?_;rintro _ w1 ⟨rfl,hb1⟩;replace hcur:=keep_trans hcur hb1;clear y0 y1 y2 y3 yl;obtain ⟨y0,y1,y2,y3,yl⟩:=HY.out _ hcur;clear x0 x1 x2 x3 xl;obtain ⟨x0,x1,x2,x3,xl⟩:=HX.out _ hcur)|(go_at_call 34;refine (HIS.out _ (keep_trans fB hcur)).mono ?_;rintro _ w1 ⟨rfl,hb1⟩;replace hcur:=keep_trans hcur hb1;clear y0 y1 y2 y3 yl;obtain ⟨y0,y1,y2,y3,yl⟩:=HY.out _ hcur;clear x0 x1 x2 x3 xl;obtain ⟨x0,x1,x2,x3,xl⟩:=HX.out _ hcur)|(go_at_call 53;refine (HRB.out _ (keep_trans fB hcur)).mono ?_;rintro _ w1 ⟨rfl,hb1⟩;replace hcur:=keep_trans hcur hb1;clear y0 y1 y2 y3 yl;obtain ⟨y0,y1,y2,y3,yl⟩:=HY.out _ hcur;clear x0 x1 x2 x3 xl;obtain ⟨x0,x1,x2,x3,xl⟩:=HX.out _ hcur)|(go_at_call 17;refine (HA.out _).mono ?_;rintro _ w1 ⟨rfl,hb1⟩;replace hcur:=keep_trans hcur hb1))
    go_ret
    exact ⟨rfl,keep_trans fB hcur⟩
end
end Go.Proofs.YtcblpobiefmjmaaGreat
