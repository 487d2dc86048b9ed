/- Texts Q11 to Q11 of this proof, in one file. -/
import Derived.Test.YtaadpihbjhachaaGreatW24
import Derived.Test.YtaadpihbjhachaaGreatW70
import Derived.Test.YtaadpihbjhachaaGreatW71
namespace Go.Proofs.YtaadpihbjhachaaGreat
set_option maxRecDepth 100000
set_option maxHeartbeats 16000000
section
open Go Go.RowKit
attribute [local go_sem] over_cell
attribute [local go_sem] Oper.semAt_some
theorem narrowed_c (a:Option Addr) (n c:Nat) (ls:List (List Int)) (cells sum:Int) (a':Option Addr) (n' c':Nat) (g:List Int) (yc:Int) (w:World) (h:RC w a n ls) (hcap:n≤c) (h':IC w a' n' g) (hcap':n'≤c') (hy0:0≤yc) (hy1:yc≤255) :
  Calls Tryz.prog 5 #[.agg #[.int .i64 cells,.slice a n c,.int .i64 sum,.slice a' n' c'],.int .u8 yc] w fun e w'=>e = .returned (.bool true)∧Below w.heap.size w w':=by
 have HA:=Lib.hid kfilled_c
 have HFW:=Lib.hid (fun w1 (hb:Below w.heap.size w w1)=>few6_c a n c ls cells sum a' n' c' g 16 6 w1 (h.mono hb) hcap (h'.mono hb) hcap')
 have HOP:Hid (∀w1,Below w.heap.size w w1→Calls Tryz.prog 23 #[.agg #[.int .i64 cells,.slice a n c,.int .i64 sum,.slice a' n' c']] w1 fun e w'=>(∃ao co,e = .returned (.slice ao (openL g).length co)∧IC w' ao (openL g).length (openL g))∧Below w1.heap.size w1 w'):=fun w1 hb=>by
  refine (ropen_c (.slice a n c) cells sum a' n' c' g w1 (h'.mono hb)).mono ?_
  rintro _ w' ⟨v,rfl,hown,hb'⟩
  obtain ⟨ao,co,rfl⟩:=owns_shape hown
  exact ⟨⟨ao,co,rfl,(IC.of_owns hown (by have h1:=openTo_len g g.length;have h2:=h'.len;have h3:=h'.small;unfold openL;omega)).1⟩,hb'⟩
 have HCN:=Lib.hid (fun w1 (hb:Below w.heap.size w w1)=>count_c a n c ls cells sum a' n' c' g w1 (h.mono hb) hcap (h'.mono hb) hcap')
 have HCA:=Lib.hid (fun w1 (hb:Below w.heap.size w w1)=>cand_c a n c ls cells sum a' n' c' g w1 (h.mono hb) hcap (h'.mono hb) hcap')
 have HFG:Hid (few6B 16 6 cells sum ls g=true→GoodTask cells ls sum g∧(openL g).length≤6∧sysErr cells ls=0∧taskErr cells ls sum g=0∧cells=(n':Int)∧n'≤256):=fun e=>by
  have h1:=few_good e
  have h4:=h1.1.len
  have h5:=h'.len
  have h6:=h1.1.cells2
  exact ⟨h1.1,by have:=h1.2;omega,few_sys e,taskErr_good h1.1 (few_sys e),by omega,by omega⟩
 have HWT:=Lib.hid (fun k x w1 (hb:Below w.heap.size w w1) (hk:k<n') (hn:n'≤256)=>with6_c a n c cells sum a' n' c' g k x w1 (h'.mono hb) hk hn)
 have HRC:=Lib.hid h
 have HIC:=Lib.hid h'
 have HGL:=Lib.hid h'.len
 have HBL:Hid ((begL g).length=n'):=by unfold Hid begL;rw[List.length_map,h'.len]
 have HML:Hid (∀j,(candL (allM n') (iterR ls sum (allM n') j (begL g)).2).length=n'):=fun j=>by
  unfold candL
  split <;> rw[List.length_map,iterR_len,HBL.out]
 clear h h'
 generalize few6B 16 6 cells sum ls g=fb at HFW HFG
 go_enter Tryz.func5,Tryz.ntmps5
 go_upto_region 2 with fail
 have fsz:((w.alloc (.cells #[.int .i64 cells,.slice a n c,.int .i64 sum,.slice a' n' c'] 27)).alloc (.cells #[.int .i64 cells,.slice a n c,.int .i64 sum,.slice a' n' c'] 30)).heap.size=w.heap.size+2:=by simp only[World.size_alloc] <;> omega
 have fB:Below w.heap.size w ((w.alloc (.cells #[.int .i64 cells,.slice a n c,.int .i64 sum,.slice a' n' c'] 27)).alloc (.cells #[.int .i64 cells,.slice a n c,.int .i64 sum,.slice a' n' c'] 30)):=((Below.refl _ _).alloc (Nat.le_refl _) _).alloc (by simp only[World.size_alloc];omega) _
 have fq0:((w.alloc (.cells #[.int .i64 cells,.slice a n c,.int .i64 sum,.slice a' n' c'] 27)).alloc (.cells #[.int .i64 cells,.slice a n c,.int .i64 sum,.slice a' n' c'] 30)).heap[w.heap.size]?=some (.cells #[.int .i64 cells,.slice a n c,.int .i64 sum,.slice a' n' c'] 27 (0,0)):=by have h:=World.alloc_heap_new w (.cells #[.int .i64 cells,.slice a n c,.int .i64 sum,.slice a' n' c'] 27);exact (Below.heap_alloc _ _ _ (by simp only[World.size_alloc];omega)).trans (h)
 have fq1:((w.alloc (.cells #[.int .i64 cells,.slice a n c,.int .i64 sum,.slice a' n' c'] 27)).alloc (.cells #[.int .i64 cells,.slice a n c,.int .i64 sum,.slice a' n' c'] 30)).heap[w.heap.size+1]?=some (.cells #[.int .i64 cells,.slice a n c,.int .i64 sum,.slice a' n' c'] 30 (0,0)):=by have h:=World.alloc_heap_new (w.alloc (.cells #[.int .i64 cells,.slice a n c,.int .i64 sum,.slice a' n' c'] 27)) (.cells #[.int .i64 cells,.slice a n c,.int .i64 sum,.slice a' n' c'] 30);simp only[World.size_alloc] at h;exact h
 generalize ((w.alloc (.cells #[.int .i64 cells,.slice a n c,.int .i64 sum,.slice a' n' c'] 27)).alloc (.cells #[.int .i64 cells,.slice a n c,.int .i64 sum,.slice a' n' c'] 30))=W0 at fsz fB fq0 fq1 ⊢
 have HY:=Lib.hid (fun W (hb:Below W0.heap.size W0 W)=>l4 (keepq hb fq0))
 have HX:=Lib.hid (fun W (hb:Below W0.heap.size W0 W)=>l4 (keepq hb fq1))
 have hcur:Below W0.heap.size W0 W0:=Below.refl _ _
 obtain ⟨y0,y1,y2,y3,yl⟩:=HY.out _ hcur
 obtain ⟨x0,x1,x2,x3,xl⟩:=HX.out _ hcur
 clear fq0 fq1 fsz
 cases fb with
 | false =>
  go_wp2_with (first|(go_at_call 9;refine (HFW.out _ (keep_trans fB hcur)).mono ?_;rintro _ w1 ⟨rfl,hb1⟩;replace hcur:=keep_trans hcur hb1;clear y0 y1 y2 y3 yl;obtain ⟨y0,y1,y2,y3,yl⟩:=HY.out _ hcur;clear x0 x1 x2 x3 xl;obtain ⟨x0,x1,x2,x3,xl⟩:=HX.out _ hcur)|(go_at_call 22;refine (HA.out _).mono ?_;rintro _ w1 ⟨rfl,hb1⟩;replace hcur:=keep_trans hcur hb1))
  go_ret
  exact ⟨rfl,keep_trans fB hcur⟩
 | true =>
  obtain ⟨G,h6,hsy,hte,hcl,hn256⟩:=HFG.out rfl
  have HG:=Lib.hid G
  have HSY:=Lib.hid hsy
  have HTE:=Lib.hid hte
  have H6:=Lib.hid h6
  have hcn:=count_ok hte (by omega)
  rw[hcn.1] at HCN
  rw[hte] at HCA
  have HOL:Hid (∀q,q<(openL g).length→∃k:Nat,(openL g)[q]?.getD 0=(k:Int)∧k<n'∧g[k]?.getD 0=0):=fun q hq=>by
   obtain ⟨x,hx,hxl,hx0⟩:=open_lt hq
   exact ⟨x,hx,by rw[← HGL.out];exact hxl,hx0⟩
  subst hcl
  clear HFG G hsy hte hcn
  have HOG:Hid (openL g=openL g):=rfl
  generalize openL g=O at HOP HOL h6
  clear HOG
  by_cases hm0:O.length=0
  ·have hmb:((O.length:Int)==0)=true:=by simp[hm0]
   have hm5:decide ((5:Int)<(O.length:Int))=false:=decide_eq_false (by omega)
   by_cases h9:(9:Int)<(n':Int)
   ·have hd:decide ((9:Int)<(n':Int))=true:=decide_eq_true h9
    go_wp2_with (first|(go_at_call 9;refine (HFW.out _ (keep_trans fB hcur)).mono ?_;rintro _ w1 ⟨rfl,hb1⟩;replace hcur:=keep_trans hcur hb1;clear y0 y1 y2 y3 yl;obtain ⟨y0,y1,y2,y3,yl⟩:=HY.out _ hcur;clear x0 x1 x2 x3 xl;obtain ⟨x0,x1,x2,x3,xl⟩:=HX.out _ hcur)|(go_at_call 23;refine (HOP.out _ (keep_trans fB hcur)).mono ?_;rintro _ w1 ⟨⟨ao,co,rfl,hio⟩,hb1⟩;replace hcur:=keep_trans hcur hb1;clear y0 y1 y2 y3 yl;obtain ⟨y0,y1,y2,y3,yl⟩:=HY.out _ hcur;clear x0 x1 x2 x3 xl;obtain ⟨x0,x1,x2,x3,xl⟩:=HX.out _ hcur)|(go_at_call 22;refine (HA.out _).mono ?_;rintro _ w1 ⟨rfl,hb1⟩;replace hcur:=keep_trans hcur hb1))
    go_ret
    exact ⟨rfl,keep_trans fB hcur⟩
   ·have hd:decide ((9:Int)<(n':Int))=false:=decide_eq_false h9
    go_wp2_with (first|(go_at_call 9;refine (HFW.out _ (keep_trans fB hcur)).mono ?_;rintro _ w1 ⟨rfl,hb1⟩;replace hcur:=keep_trans hcur hb1;clear y0 y1 y2 y3 yl;obtain ⟨y0,y1,y2,y3,yl⟩:=HY.out _ hcur;clear x0 x1 x2 x3 xl;obtain ⟨x0,x1,x2,x3,xl⟩:=HX.out _ hcur)|(go_at_call 23;refine (HOP.out _ (keep_trans fB hcur)).mono ?_;rintro _ w1 ⟨⟨ao,co,rfl,hio⟩,hb1⟩;replace hcur:=keep_trans hcur hb1;clear y0 y1 y2 y3 yl;obtain ⟨y0,y1,y2,y3,yl⟩:=HY.out _ hcur;clear x0 x1 x2 x3 xl;obtain ⟨x0,x1,x2,x3,xl⟩:=HX.out _ hcur)|(go_at_call 22;refine (HA.out _).mono ?_;rintro _ w1 ⟨rfl,hb1⟩;replace hcur:=keep_trans hcur hb1))
    go_ret
    exact ⟨rfl,keep_trans fB hcur⟩
  ·have hmb:((O.length:Int)==0)=false:=by simpa using hm0
   by_cases h9:(9:Int)<(n':Int)
   ·have hd:decide ((9:Int)<(n':Int))=true:=decide_eq_true h9
    by_cases h5:(5:Int)<(O.length:Int)
    ·have hm5:decide ((5:Int)<(O.length:Int))=true:=decide_eq_true h5
     go_wp2_with (first|(go_at_call 9;refine (HFW.out _ (keep_trans fB hcur)).mono ?_;rintro _ w1 ⟨rfl,hb1⟩;replace hcur:=keep_trans hcur hb1;clear y0 y1 y2 y3 yl;obtain ⟨y0,y1,y2,y3,yl⟩:=HY.out _ hcur;clear x0 x1 x2 x3 xl;obtain ⟨x0,x1,x2,x3,xl⟩:=HX.out _ hcur)|(go_at_call 23;refine (HOP.out _ (keep_trans fB hcur)).mono ?_;rintro _ w1 ⟨⟨ao,co,rfl,hio⟩,hb1⟩;replace hcur:=keep_trans hcur hb1;clear y0 y1 y2 y3 yl;obtain ⟨y0,y1,y2,y3,yl⟩:=HY.out _ hcur;clear x0 x1 x2 x3 xl;obtain ⟨x0,x1,x2,x3,xl⟩:=HX.out _ hcur)|(go_at_call 22;refine (HA.out _).mono ?_;rintro _ w1 ⟨rfl,hb1⟩;replace hcur:=keep_trans hcur hb1))
     go_ret
     exact ⟨rfl,keep_trans fB hcur⟩
    ·have hm5:decide ((5:Int)<(O.length:Int))=false:=decide_eq_false h5
     skip
     go_upto_region 5 with (first|(go_at_call 9;refine (HFW.out _ (keep_trans fB hcur)).mono ?_;rintro _ w1 ⟨rfl,hb1⟩;replace hcur:=keep_trans hcur hb1;clear y0 y1 y2 y3 yl;obtain ⟨y0,y1,y2,y3,yl⟩:=HY.out _ hcur;clear x0 x1 x2 x3 xl;obtain ⟨x0,x1,x2,x3,xl⟩:=HX.out _ hcur)|(go_at_call 23;refine (HOP.out _ (keep_trans fB hcur)).mono ?_;rintro _ w1 ⟨⟨ao,co,rfl,hio⟩,hb1⟩;replace hcur:=keep_trans hcur hb1;clear y0 y1 y2 y3 yl;obtain ⟨y0,y1,y2,y3,yl⟩:=HY.out _ hcur;clear x0 x1 x2 x3 xl;obtain ⟨x0,x1,x2,x3,xl⟩:=HX.out _ hcur))
     obtain ⟨m,hm⟩:∃m,O.length=m:=⟨_,rfl⟩
     obtain ⟨y,rfl⟩:=Int.eq_ofNat_of_zero_le hy0
     have hmp:0<m:=by omega
     obtain ⟨k,hk1,hk2,hk3⟩:=HOL.out (y % m) (by rw[hm];exact Nat.mod_lt _ hmp)
     obtain ⟨b5,o5,rfl,hb5,hc5⟩:=hio.2 (y % m) (by rw[hm];exact Nat.mod_lt _ hmp)
     rw[hk1] at hc5
     rw[hm] at hmb
     rw[hm] at HOP
     have hq0:((y:Int) % (m:Int))=((y % m:Nat):Int):=by rw[← Int.natCast_emod]
     have hql:y % m<m:=Nat.mod_lt _ hmp
     have hqi:((y % m:Nat):Int)<(m:Int):=by omega
     have hr0:(0:Int)≤(y:Int) % (m:Int):=by rw[hq0];omega
     have hr1:(y:Int) % (m:Int)<(m:Int):=by rw[hq0];exact hqi
     have hc5b:w1.cell? ⟨b5,o5+((y:Int) % (m:Int)).toNat,none⟩=some (.int .i64 (k:Int)):=by rw[hq0,Int.toNat_natCast];exact hc5
     have hms:m≤6:=by omega
     have hmne:(m:Int)≠0:=by omega
     have HIO:=Lib.hid hio
     rw[hm] at *
     clear hk1 HOL hio hm HIO hq0
     go_wp2_with fail
     refine (HCN.out _ (keep_trans fB hcur)).mono ?_
     rintro _ w1 ⟨rfl,hb1⟩
     replace hcur:=keep_trans hcur hb1
     clear y0 y1 y2 y3 yl
     obtain ⟨y0,y1,y2,y3,yl⟩:=HY.out _ hcur
     clear x0 x1 x2 x3 xl
     obtain ⟨x0,x1,x2,x3,xl⟩:=HX.out _ hcur
     go_wp2_with fail
     refine (HCA.out _ (keep_trans fB hcur)).mono ?_
     rintro _ w1 ⟨ar,nr,cr,rfl,_,hC,hcr,hb1⟩
     obtain ⟨k1,hend1,hRC⟩:=hC trivial
     obtain rfl:nr=n':=by rw[← hRC.len];exact HML.out k1
     have HNF:Hid (NarF (nr:Int) ls sum g k ((candL (allM nr) (iterR ls sum (allM nr) k1 (begL g)).2)[k]?.getD [])):=by
      have hgl:=HGL.out
      exact narF HG.out HSY.out H6.out (by rw[hgl];exact hk2) hk3 k1 (by rw[hgl];exact hend1) (by rw[hgl])
     replace hcur:=keep_trans hcur hb1
     obtain ⟨b6,o6,aC,nC,cC,rfl,hb6,hc6,hiC,_⟩:=hRC.2 k hk2
     generalize (candL (allM nr) (iterR ls sum (allM nr) k1 (begL g)).2)[k]?.getD []=C at HNF hiC
     clear y0 y1 y2 y3 yl
     obtain ⟨y0,y1,y2,y3,yl⟩:=HY.out _ hcur
     clear x0 x1 x2 x3 xl
     obtain ⟨x0,x1,x2,x3,xl⟩:=HX.out _ hcur
     have hlC:=hiC.len
     have hnC:=HNF.out.len
     have HNUM:Hid (∀j,j<nC→1≤C[j]?.getD 0∧C[j]?.getD 0≤(nr:Int)):=fun j hj=>by have:=HNF.out.num j (by omega);rw[HGL.out] at this;exact this
     have HASC:Hid (∀j,0<j→j<nC→C[j - 1]?.getD 0<C[j]?.getD 0):=fun j h1 h2=>HNF.out.asc j h1 (by omega)
     have HNEW:Hid (∀j i,j<nC→i<nr→g[i]?.getD 0≠C[j]?.getD 0):=fun j i h1 h2=>HNF.out.new j i (by omega) (by rw[HGL.out];exact h2)
     have HERR:Hid (∀j,j<nC→countE (nr:Int) ls sum (g.set k (C[j]?.getD 0))=0):=fun j h1=>(HNF.out.err j (by omega)).2
     have HSTP:Hid (∀j,j<nC→(sumC ls sum g k C (j+1):Int)=(sumC ls sum g k C j:Int)+countN (nr:Int) ls sum (g.set k (C[j]?.getD 0))∧0≤countN (nr:Int) ls sum (g.set k (C[j]?.getD 0))∧countN (nr:Int) ls sum (g.set k (C[j]?.getD 0))≤5040):=fun j h1=>HNF.out.step j (by omega)
     have HALL:Hid ((sumC ls sum g k C nC:Int)=countN (nr:Int) ls sum g):=by have:=HNF.out.all;rw[hlC] at this;exact this
     have HLOW:Hid (∀j,j≤nC→sumC ls sum g k C j≤1290240):=fun j h1=>HNF.out.low j (by omega)
     have HZ:Hid (sumC ls sum g k C 0=0):=by unfold Hid sumC;rfl
     have HIC1:=Lib.hid hiC
     have hnC2:nC≤256:=by omega
     rw[hlC] at hnC
     clear hRC hC hiC HNF HML HBL hlC hnC hend1
     generalize countN (nr:Int) ls sum g=N at HALL HCN
     generalize sumC ls sum g k C=S at HSTP HALL HLOW HZ
     have hki:(k:Int)<(nr:Int):=by omega
     have hne:((nr:Int) != (nr:Int))=false:=by simp
     clear y0 y1 y2 y3 yl
     have hc1:=hcur
     have HC1:=Lib.hid hcur
     obtain ⟨wb,hwb⟩:∃wb,wb=w1:=⟨_,rfl⟩
     rw[← hwb] at HC1 HIC1 hb6 hc6
     have hc6b:=hc6
     rw[hwb] at hc6b
     go_wp2_with fail
     clear x0 x1 x2 x3 xl hcur hc1 hc6b
     go_loopw [12,13,14,15,17,18,19,82,115] (fun sv _ _ _ _ _ _ iv _ wr=>∃j:Nat,j≤nC∧iv = .int .i64 j∧sv = .int .i64 (S j:Int)∧Below wb.heap.size wb wr) (fun _ _ _ _ _ _ _ iv _ _=>nC - (intOf iv).toNat)
     case atStart=>exact ⟨0,by omega,rfl,by rw[HZ.out];rfl,by rw[hwb];exact Below.refl _ _⟩
     case round =>
      obtain ⟨j,hj,rfl,rfl,hbr⟩:=hrel
      have hcur:=keep_trans HC1.out hbr
      obtain ⟨x0,x1,x2,x3,xl⟩:=HX.out _ hcur
      obtain ⟨y0,y1,y2,y3,yl⟩:=HY.out _ hcur
      have hlw:=HLOW.out j hj
      by_cases hlt:j<nC
      ·have hji:(j:Int)<(nC:Int):=by omega
       obtain ⟨b7,o7,rfl,hb7,hc7⟩:=(HIC1.out.mono hbr).2 j hlt
       have hnum:=HNUM.out j hlt
       have HAS:=Lib.hid (fun h0=>HASC.out j h0 hlt)
       have HNE:=Lib.hid (fun i hi=>HNEW.out j i hlt hi)
       have HER:=Lib.hid (HERR.out j hlt)
       obtain ⟨hst,hcn0,hcn1⟩:=HSTP.out j hlt
       have HPR:Hid (0<j→wr.cell? ⟨b7,o7+(j - 1),none⟩=some (.int .i64 (C[j - 1]?.getD 0))∧b7<wr.heap.size):=fun h0=>by
        obtain ⟨b8,o8,e8,h8,c8⟩:=(HIC1.out.mono hbr).2 (j - 1) (by omega)
        cases e8
        exact ⟨c8,h8⟩
       have HCX:Hid (∀gb cg W,Below wb.heap.size wb W→IC W (some ⟨gb,0,none⟩) nr (g.set k (C[j]?.getD 0))→nr≤cg→Calls Tryz.prog 14 #[.agg #[.int .i64 (nr:Int),.slice a n c,.int .i64 sum,.slice (some ⟨gb,0,none⟩) nr cg]] W fun e w'=>e = .returned (.tuple #[.int .i64 (countN (nr:Int) ls sum (g.set k (C[j]?.getD 0))),.int .i64 0])∧Below W.heap.size W w'):=fun gb cg W hb hi hcg=>by
        have h1:=count_c a n c ls (nr:Int) sum (some ⟨gb,0,none⟩) nr cg (g.set k (C[j]?.getD 0)) W (HRC.out.mono (keep_trans fB (keep_trans HC1.out hb))) hcap hi hcg
        rw[HER.out] at h1
        exact h1
       have HWX:=Lib.hid (fun W (hb:Below wb.heap.size wb W)=>HWT.out k (C[j]?.getD 0) W (keep_trans fB (keep_trans HC1.out hb)) hk2 hn256)
       have hc6r:=((bcell hbr).1 b6 _ hb6).trans hc6
       have hb6r:=Nat.lt_of_lt_of_le hb6 hbr.size
       generalize countN (nr:Int) ls sum (g.set k (C[j]?.getD 0))=cj at HCX hst hcn0 hcn1
       generalize hset:g.set k (C[j]?.getD 0)=gx at HCX HWX
       clear hset
       generalize C[j]?.getD 0=x at hc7 hnum HAS HNE HWX
       have hx1:=hnum.1
       have hx2:=hnum.2
       have hd1:decide (x<1)=false:=decide_eq_false (by omega)
       have hd2:decide ((nr:Int)<x)=false:=decide_eq_false (by omega)
       have hst2:(S j:Int)+cj=(S (j+1):Int):=hst.symm
       clear hst hnum HER
       rcases Nat.eq_zero_or_pos j with hj0|hj0
       ·subst hj0
        rw[Nat.add_zero] at hc7
        have hji0:(0:Int)<(nC:Int):=by omega
        go_wp2_with fail
        go_loop [15,17,115] (fun uv _ iv=>∃q:Nat,q≤nr∧iv = .int .i64 q∧uv = .bool false) (fun _ _ iv=>nr - (intOf iv).toNat)
        case atStart=>exact ⟨0,by omega,rfl,rfl⟩
        case round =>
         obtain ⟨q,hq,rfl,rfl⟩:=hrel
         by_cases hql2:q<nr
         ·have hqi2:(q:Int)<(nr:Int):=by omega
          obtain ⟨b9,o9,rfl,hb9,hc9z⟩:=(HIC.out.mono (keep_trans fB hcur)).2 q hql2
          have hnz:=HNE.out q hql2
          generalize g[q]?.getD 0=z at hc9z hnz
          have hbz:(x==z)=false:=by simpa using (fun e=>hnz e.symm)
          go_wp2_with fail
          go_round
          case rel=>exact ⟨q+1,by omega,by go_num,rfl⟩
          case measure=>simp[intOf];omega
         ·go_upto_region 24 with fail
          go_wp2_with fail
          refine (HWX.out _ hbr).mono ?_
          rintro _ w2 ⟨gb,cg,rfl,hi2,hcg2,hge2,hb2⟩
          have HC2:=Lib.hid (HCX.out gb cg w2 (keep_trans hbr hb2) hi2 hcg2)
          clear hi2 x0 x1 x2 x3 xl y0 y1 y2 y3 yl
          go_wp2_with fail
          refine HC2.out.mono ?_
          rintro _ w3 ⟨rfl,hb3⟩
          go_wp2_with fail
          go_roundw
          case rel=>exact ⟨0+1,by omega,by go_num,by rw[← hst2,show wrap64 (((S 0:Nat):Int)+cj)=((S 0:Nat):Int)+cj from by unfold wrap64;omega],keep_trans hbr (keep_trans hb2 hb3)⟩
          case measure=>simp[intOf];omega
       ·have hd3:decide ((0:Int)<(j:Int))=true:=decide_eq_true (by omega)
        obtain ⟨hc8,hb8⟩:=HPR.out hj0
        have hlx:=HAS.out hj0
        generalize C[j - 1]?.getD 0=xp at hc8 hlx
        have hd4:decide (x≤xp)=false:=decide_eq_false (by omega)
        have hj1:(0:Int)≤(j:Int) - 1:=by omega
        have hj2:(j:Int) - 1<(nC:Int):=by omega
        have hc9:wr.cell? ⟨b7,o7+((j:Int) - 1).toNat,none⟩=some (.int .i64 xp):=by
         rw[show ((j:Int) - 1).toNat=j - 1 by omega];exact hc8
        go_wp2_with fail
        go_loop [15,17,115] (fun uv _ iv=>∃q:Nat,q≤nr∧iv = .int .i64 q∧uv = .bool false) (fun _ _ iv=>nr - (intOf iv).toNat)
        case atStart=>exact ⟨0,by omega,rfl,rfl⟩
        case round =>
         obtain ⟨q,hq,rfl,rfl⟩:=hrel
         by_cases hql2:q<nr
         ·have hqi2:(q:Int)<(nr:Int):=by omega
          obtain ⟨b9,o9,rfl,hb9,hc9z⟩:=(HIC.out.mono (keep_trans fB hcur)).2 q hql2
          have hnz:=HNE.out q hql2
          generalize g[q]?.getD 0=z at hc9z hnz
          have hbz:(x==z)=false:=by simpa using (fun e=>hnz e.symm)
          go_wp2_with fail
          go_round
          case rel=>exact ⟨q+1,by omega,by go_num,rfl⟩
          case measure=>simp[intOf];omega
         ·go_upto_region 24 with fail
          go_wp2_with fail
          refine (HWX.out _ hbr).mono ?_
          rintro _ w2 ⟨gb,cg,rfl,hi2,hcg2,hge2,hb2⟩
          have HC2:=Lib.hid (HCX.out gb cg w2 (keep_trans hbr hb2) hi2 hcg2)
          clear hi2 x0 x1 x2 x3 xl y0 y1 y2 y3 yl
          go_wp2_with fail
          refine HC2.out.mono ?_
          rintro _ w3 ⟨rfl,hb3⟩
          go_wp2_with fail
          go_roundw
          case rel=>exact ⟨j+1,by omega,by go_num,by rw[← hst2],keep_trans hbr (keep_trans hb2 hb3)⟩
          case measure=>simp[intOf];omega
      ·have e:j=nC:=by omega
       subst e
       have hbeq:((S j:Int)==N)=true:=by rw[HALL.out];simp
       have HCR:=Lib.hid (keep_trans fB hcur)
       clear x0 x1 x2 x3 xl y0 y1 y2 y3 yl
       go_wp2_with (first|(go_at_call 22;refine (HA.out _).mono ?_;rintro _ w2 ⟨rfl,hb2⟩))
       go_ret
       exact ⟨rfl,keep_trans HCR.out hb2⟩
   ·have hd:decide ((9:Int)<(n':Int))=false:=decide_eq_false h9
    skip
    go_upto_region 5 with (first|(go_at_call 9;refine (HFW.out _ (keep_trans fB hcur)).mono ?_;rintro _ w1 ⟨rfl,hb1⟩;replace hcur:=keep_trans hcur hb1;clear y0 y1 y2 y3 yl;obtain ⟨y0,y1,y2,y3,yl⟩:=HY.out _ hcur;clear x0 x1 x2 x3 xl;obtain ⟨x0,x1,x2,x3,xl⟩:=HX.out _ hcur)|(go_at_call 23;refine (HOP.out _ (keep_trans fB hcur)).mono ?_;rintro _ w1 ⟨⟨ao,co,rfl,hio⟩,hb1⟩;replace hcur:=keep_trans hcur hb1;clear y0 y1 y2 y3 yl;obtain ⟨y0,y1,y2,y3,yl⟩:=HY.out _ hcur;clear x0 x1 x2 x3 xl;obtain ⟨x0,x1,x2,x3,xl⟩:=HX.out _ hcur))
    obtain ⟨m,hm⟩:∃m,O.length=m:=⟨_,rfl⟩
    obtain ⟨y,rfl⟩:=Int.eq_ofNat_of_zero_le hy0
    have hmp:0<m:=by omega
    obtain ⟨k,hk1,hk2,hk3⟩:=HOL.out (y % m) (by rw[hm];exact Nat.mod_lt _ hmp)
    obtain ⟨b5,o5,rfl,hb5,hc5⟩:=hio.2 (y % m) (by rw[hm];exact Nat.mod_lt _ hmp)
    rw[hk1] at hc5
    rw[hm] at hmb
    rw[hm] at HOP
    have hq0:((y:Int) % (m:Int))=((y % m:Nat):Int):=by rw[← Int.natCast_emod]
    have hql:y % m<m:=Nat.mod_lt _ hmp
    have hqi:((y % m:Nat):Int)<(m:Int):=by omega
    have hr0:(0:Int)≤(y:Int) % (m:Int):=by rw[hq0];omega
    have hr1:(y:Int) % (m:Int)<(m:Int):=by rw[hq0];exact hqi
    have hc5b:w1.cell? ⟨b5,o5+((y:Int) % (m:Int)).toNat,none⟩=some (.int .i64 (k:Int)):=by rw[hq0,Int.toNat_natCast];exact hc5
    have hms:m≤6:=by omega
    have hmne:(m:Int)≠0:=by omega
    have HIO:=Lib.hid hio
    rw[hm] at *
    clear hk1 HOL hio hm HIO hq0
    go_wp2_with fail
    refine (HCN.out _ (keep_trans fB hcur)).mono ?_
    rintro _ w1 ⟨rfl,hb1⟩
    replace hcur:=keep_trans hcur hb1
    clear y0 y1 y2 y3 yl
    obtain ⟨y0,y1,y2,y3,yl⟩:=HY.out _ hcur
    clear x0 x1 x2 x3 xl
    obtain ⟨x0,x1,x2,x3,xl⟩:=HX.out _ hcur
    go_wp2_with fail
    refine (HCA.out _ (keep_trans fB hcur)).mono ?_
    rintro _ w1 ⟨ar,nr,cr,rfl,_,hC,hcr,hb1⟩
    obtain ⟨k1,hend1,hRC⟩:=hC trivial
    obtain rfl:nr=n':=by rw[← hRC.len];exact HML.out k1
    have HNF:Hid (NarF (nr:Int) ls sum g k ((candL (allM nr) (iterR ls sum (allM nr) k1 (begL g)).2)[k]?.getD [])):=by
     have hgl:=HGL.out
     exact narF HG.out HSY.out H6.out (by rw[hgl];exact hk2) hk3 k1 (by rw[hgl];exact hend1) (by rw[hgl])
    replace hcur:=keep_trans hcur hb1
    obtain ⟨b6,o6,aC,nC,cC,rfl,hb6,hc6,hiC,_⟩:=hRC.2 k hk2
    generalize (candL (allM nr) (iterR ls sum (allM nr) k1 (begL g)).2)[k]?.getD []=C at HNF hiC
    clear y0 y1 y2 y3 yl
    obtain ⟨y0,y1,y2,y3,yl⟩:=HY.out _ hcur
    clear x0 x1 x2 x3 xl
    obtain ⟨x0,x1,x2,x3,xl⟩:=HX.out _ hcur
    have hlC:=hiC.len
    have hnC:=HNF.out.len
    have HNUM:Hid (∀j,j<nC→1≤C[j]?.getD 0∧C[j]?.getD 0≤(nr:Int)):=fun j hj=>by have:=HNF.out.num j (by omega);rw[HGL.out] at this;exact this
    have HASC:Hid (∀j,0<j→j<nC→C[j - 1]?.getD 0<C[j]?.getD 0):=fun j h1 h2=>HNF.out.asc j h1 (by omega)
    have HNEW:Hid (∀j i,j<nC→i<nr→g[i]?.getD 0≠C[j]?.getD 0):=fun j i h1 h2=>HNF.out.new j i (by omega) (by rw[HGL.out];exact h2)
    have HERR:Hid (∀j,j<nC→countE (nr:Int) ls sum (g.set k (C[j]?.getD 0))=0):=fun j h1=>(HNF.out.err j (by omega)).2
    have HSTP:Hid (∀j,j<nC→(sumC ls sum g k C (j+1):Int)=(sumC ls sum g k C j:Int)+countN (nr:Int) ls sum (g.set k (C[j]?.getD 0))∧0≤countN (nr:Int) ls sum (g.set k (C[j]?.getD 0))∧countN (nr:Int) ls sum (g.set k (C[j]?.getD 0))≤5040):=fun j h1=>HNF.out.step j (by omega)
    have HALL:Hid ((sumC ls sum g k C nC:Int)=countN (nr:Int) ls sum g):=by have:=HNF.out.all;rw[hlC] at this;exact this
    have HLOW:Hid (∀j,j≤nC→sumC ls sum g k C j≤1290240):=fun j h1=>HNF.out.low j (by omega)
    have HZ:Hid (sumC ls sum g k C 0=0):=by unfold Hid sumC;rfl
    have HIC1:=Lib.hid hiC
    have hnC2:nC≤256:=by omega
    rw[hlC] at hnC
    clear hRC hC hiC HNF HML HBL hlC hnC hend1
    generalize countN (nr:Int) ls sum g=N at HALL HCN
    generalize sumC ls sum g k C=S at HSTP HALL HLOW HZ
    have hki:(k:Int)<(nr:Int):=by omega
    have hne:((nr:Int) != (nr:Int))=false:=by simp
    clear y0 y1 y2 y3 yl
    have hc1:=hcur
    have HC1:=Lib.hid hcur
    obtain ⟨wb,hwb⟩:∃wb,wb=w1:=⟨_,rfl⟩
    rw[← hwb] at HC1 HIC1 hb6 hc6
    have hc6b:=hc6
    rw[hwb] at hc6b
    go_wp2_with fail
    clear x0 x1 x2 x3 xl hcur hc1 hc6b
    go_loopw [12,13,14,15,17,18,19,82,115] (fun sv _ _ _ _ _ _ iv _ wr=>∃j:Nat,j≤nC∧iv = .int .i64 j∧sv = .int .i64 (S j:Int)∧Below wb.heap.size wb wr) (fun _ _ _ _ _ _ _ iv _ _=>nC - (intOf iv).toNat)
    case atStart=>exact ⟨0,by omega,rfl,by rw[HZ.out];rfl,by rw[hwb];exact Below.refl _ _⟩
    case round =>
     obtain ⟨j,hj,rfl,rfl,hbr⟩:=hrel
     have hcur:=keep_trans HC1.out hbr
     obtain ⟨x0,x1,x2,x3,xl⟩:=HX.out _ hcur
     obtain ⟨y0,y1,y2,y3,yl⟩:=HY.out _ hcur
     have hlw:=HLOW.out j hj
     by_cases hlt:j<nC
     ·have hji:(j:Int)<(nC:Int):=by omega
      obtain ⟨b7,o7,rfl,hb7,hc7⟩:=(HIC1.out.mono hbr).2 j hlt
      have hnum:=HNUM.out j hlt
      have HAS:=Lib.hid (fun h0=>HASC.out j h0 hlt)
      have HNE:=Lib.hid (fun i hi=>HNEW.out j i hlt hi)
      have HER:=Lib.hid (HERR.out j hlt)
      obtain ⟨hst,hcn0,hcn1⟩:=HSTP.out j hlt
      have HPR:Hid (0<j→wr.cell? ⟨b7,o7+(j - 1),none⟩=some (.int .i64 (C[j - 1]?.getD 0))∧b7<wr.heap.size):=fun h0=>by
       obtain ⟨b8,o8,e8,h8,c8⟩:=(HIC1.out.mono hbr).2 (j - 1) (by omega)
       cases e8
       exact ⟨c8,h8⟩
      have HCX:Hid (∀gb cg W,Below wb.heap.size wb W→IC W (some ⟨gb,0,none⟩) nr (g.set k (C[j]?.getD 0))→nr≤cg→Calls Tryz.prog 14 #[.agg #[.int .i64 (nr:Int),.slice a n c,.int .i64 sum,.slice (some ⟨gb,0,none⟩) nr cg]] W fun e w'=>e = .returned (.tuple #[.int .i64 (countN (nr:Int) ls sum (g.set k (C[j]?.getD 0))),.int .i64 0])∧Below W.heap.size W w'):=fun gb cg W hb hi hcg=>by
       have h1:=count_c a n c ls (nr:Int) sum (some ⟨gb,0,none⟩) nr cg (g.set k (C[j]?.getD 0)) W (HRC.out.mono (keep_trans fB (keep_trans HC1.out hb))) hcap hi hcg
       rw[HER.out] at h1
       exact h1
      have HWX:=Lib.hid (fun W (hb:Below wb.heap.size wb W)=>HWT.out k (C[j]?.getD 0) W (keep_trans fB (keep_trans HC1.out hb)) hk2 hn256)
      have hc6r:=((bcell hbr).1 b6 _ hb6).trans hc6
      have hb6r:=Nat.lt_of_lt_of_le hb6 hbr.size
      generalize countN (nr:Int) ls sum (g.set k (C[j]?.getD 0))=cj at HCX hst hcn0 hcn1
      generalize hset:g.set k (C[j]?.getD 0)=gx at HCX HWX
      clear hset
      generalize C[j]?.getD 0=x at hc7 hnum HAS HNE HWX
      have hx1:=hnum.1
      have hx2:=hnum.2
      have hd1:decide (x<1)=false:=decide_eq_false (by omega)
      have hd2:decide ((nr:Int)<x)=false:=decide_eq_false (by omega)
      have hst2:(S j:Int)+cj=(S (j+1):Int):=hst.symm
      clear hst hnum HER
      rcases Nat.eq_zero_or_pos j with hj0|hj0
      ·subst hj0
       rw[Nat.add_zero] at hc7
       have hji0:(0:Int)<(nC:Int):=by omega
       go_wp2_with fail
       go_loop [15,17,115] (fun uv _ iv=>∃q:Nat,q≤nr∧iv = .int .i64 q∧uv = .bool false) (fun _ _ iv=>nr - (intOf iv).toNat)
       case atStart=>exact ⟨0,by omega,rfl,rfl⟩
       case round =>
        obtain ⟨q,hq,rfl,rfl⟩:=hrel
        by_cases hql2:q<nr
        ·have hqi2:(q:Int)<(nr:Int):=by omega
         obtain ⟨b9,o9,rfl,hb9,hc9z⟩:=(HIC.out.mono (keep_trans fB hcur)).2 q hql2
         have hnz:=HNE.out q hql2
         generalize g[q]?.getD 0=z at hc9z hnz
         have hbz:(x==z)=false:=by simpa using (fun e=>hnz e.symm)
         go_wp2_with fail
         go_round
         case rel=>exact ⟨q+1,by omega,by go_num,rfl⟩
         case measure=>simp[intOf];omega
        ·go_upto_region 24 with fail
         go_wp2_with fail
         refine (HWX.out _ hbr).mono ?_
         rintro _ w2 ⟨gb,cg,rfl,hi2,hcg2,hge2,hb2⟩
         have HC2:=Lib.hid (HCX.out gb cg w2 (keep_trans hbr hb2) hi2 hcg2)
         clear hi2 x0 x1 x2 x3 xl y0 y1 y2 y3 yl
         go_wp2_with fail
         refine HC2.out.mono ?_
         rintro _ w3 ⟨rfl,hb3⟩
         go_wp2_with fail
         go_roundw
         case rel=>exact ⟨0+1,by omega,by go_num,by rw[← hst2,show wrap64 (((S 0:Nat):Int)+cj)=((S 0:Nat):Int)+cj from by unfold wrap64;omega],keep_trans hbr (keep_trans hb2 hb3)⟩
         case measure=>simp[intOf];omega
      ·have hd3:decide ((0:Int)<(j:Int))=true:=decide_eq_true (by omega)
       obtain ⟨hc8,hb8⟩:=HPR.out hj0
       have hlx:=HAS.out hj0
       generalize C[j - 1]?.getD 0=xp at hc8 hlx
       have hd4:decide (x≤xp)=false:=decide_eq_false (by omega)
       have hj1:(0:Int)≤(j:Int) - 1:=by omega
       have hj2:(j:Int) - 1<(nC:Int):=by omega
       have hc9:wr.cell? ⟨b7,o7+((j:Int) - 1).toNat,none⟩=some (.int .i64 xp):=by
        rw[show ((j:Int) - 1).toNat=j - 1 by omega];exact hc8
       go_wp2_with fail
       go_loop [15,17,115] (fun uv _ iv=>∃q:Nat,q≤nr∧iv = .int .i64 q∧uv = .bool false) (fun _ _ iv=>nr - (intOf iv).toNat)
       case atStart=>exact ⟨0,by omega,rfl,rfl⟩
       case round =>
        obtain ⟨q,hq,rfl,rfl⟩:=hrel
        by_cases hql2:q<nr
        ·have hqi2:(q:Int)<(nr:Int):=by omega
         obtain ⟨b9,o9,rfl,hb9,hc9z⟩:=(HIC.out.mono (keep_trans fB hcur)).2 q hql2
         have hnz:=HNE.out q hql2
         generalize g[q]?.getD 0=z at hc9z hnz
         have hbz:(x==z)=false:=by simpa using (fun e=>hnz e.symm)
         go_wp2_with fail
         go_round
         case rel=>exact ⟨q+1,by omega,by go_num,rfl⟩
         case measure=>simp[intOf];omega
        ·go_upto_region 24 with fail
         go_wp2_with fail
         refine (HWX.out _ hbr).mono ?_
         rintro _ w2 ⟨gb,cg,rfl,hi2,hcg2,hge2,hb2⟩
         have HC2:=Lib.hid (HCX.out gb cg w2 (keep_trans hbr hb2) hi2 hcg2)
         clear hi2 x0 x1 x2 x3 xl y0 y1 y2 y3 yl
         go_wp2_with fail
         refine HC2.out.mono ?_
         rintro _ w3 ⟨rfl,hb3⟩
         go_wp2_with fail
         go_roundw
         case rel=>exact ⟨j+1,by omega,by go_num,by rw[← hst2],keep_trans hbr (keep_trans hb2 hb3)⟩
         case measure=>simp[intOf];omega
     ·have e:j=nC:=by omega
      subst e
      have hbeq:((S j:Int)==N)=true:=by rw[HALL.out];simp
      have HCR:=Lib.hid (keep_trans fB hcur)
      clear x0 x1 x2 x3 xl y0 y1 y2 y3 yl
      go_wp2_with (first|(go_at_call 22;refine (HA.out _).mono ?_;rintro _ w2 ⟨rfl,hb2⟩))
      go_ret
      exact ⟨rfl,keep_trans HCR.out hb2⟩
end
end Go.Proofs.YtaadpihbjhachaaGreat
