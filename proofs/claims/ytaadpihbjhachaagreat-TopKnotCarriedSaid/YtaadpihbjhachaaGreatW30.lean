/- Texts Q14 to Q14 of this proof, in one file. -/
import Derived.Test.YtaadpihbjhachaaGreatW24
import Derived.Test.YtaadpihbjhachaaGreatW27
import Derived.Test.YtaadpihbjhachaaGreatW29
namespace Go.Proofs.YtaadpihbjhachaaGreat
set_option maxRecDepth 100000
set_option maxHeartbeats 16000000
section
open Go Go.RowKit
attribute [local go_sem] over_cell
attribute [local go_sem] Oper.semAt_some
theorem mvE_three (cp:Bool) (n':Int) (ls:List (List Int)) (sum:Int):mvE cp n' ls sum=0∨mvE cp n' ls sum=2∨mvE cp n' ls sum=3:=by
 unfold mvE
 split
 ·exact .inr (.inl rfl)
 ·split
  ·exact .inr (.inr rfl)
  ·exact .inl rfl
theorem carried_c (a:Option Addr) (n c:Nat) (ls:List (List Int)) (cells sum:Int) (a':Option Addr) (n' c':Nat) (g:List Int) (ap:Option Addr) (np cap:Nat) (p:List Int) (cp:Bool) (w:World) (h:RC w a n ls) (hcap:n≤c) (h':IC w a' n' g) (hcap':n'≤c') (hp:IC w ap np p) :
  Calls Tryz.prog 6 #[.agg #[.int .i64 cells,.slice a n c,.int .i64 sum,.slice a' n' c'],.agg #[.slice ap np cap,.bool cp]] w fun e w'=>e = .returned (.bool true)∧Below w.heap.size w w':=by
 obtain ⟨i0,hi,hz0,hz1,hz2⟩:=info_parts infoInt1
 have HA:=Lib.hid kfilled_c
 have HFW:=Lib.hid (fun w1 (hb:Below w.heap.size w w1)=>few6_c a n c ls cells sum a' n' c' g 16 5 w1 (h.mono hb) hcap (h'.mono hb) hcap')
 have HAL:=Lib.hid (fun w1 (hb:Below w.heap.size w w1)=>alone_c ap np cap p cp w1 (hp.mono hb))
 have HFG:Hid (few6B 16 5 cells sum ls g=true→GoodTask cells ls sum g∧(openL g).length≤5∧sysErr cells ls=0∧taskErr cells ls sum g=0∧cells=(n':Int)∧n'≤256):=fun e=>by
  have h1:=few_good e
  have h4:=h1.1.len
  have h5:=h'.len
  have h6:=h1.1.cells2
  exact ⟨h1.1,by have:=h1.2;omega,few_sys e,taskErr_good h1.1 (few_sys e),by omega,by omega⟩
 have HRC:=Lib.hid h
 have HIC:=Lib.hid h'
 have HP:=Lib.hid hp
 have HGL:=Lib.hid h'.len
 have HPL:=Lib.hid hp.len
 clear h h' hp
 generalize few6B 16 5 cells sum ls g=fb at HFW HFG
 go_enter Tryz.func6,Tryz.ntmps6
 go_upto_region 2 with fail
 have fsz:(((w.alloc (.cells #[.int .i64 cells,.slice a n c,.int .i64 sum,.slice a' n' c'] 27)).alloc (.cells #[.slice ap np cap,.bool cp] 29)).alloc (.cells #[.int .i64 cells,.slice a n c,.int .i64 sum,.slice a' n' c'] 30)).heap.size=w.heap.size+3:=by simp only[World.size_alloc] <;> omega
 have fB:Below w.heap.size w (((w.alloc (.cells #[.int .i64 cells,.slice a n c,.int .i64 sum,.slice a' n' c'] 27)).alloc (.cells #[.slice ap np cap,.bool cp] 29)).alloc (.cells #[.int .i64 cells,.slice a n c,.int .i64 sum,.slice a' n' c'] 30)):=(((Below.refl _ _).alloc (Nat.le_refl _) _).alloc (by simp only[World.size_alloc];omega) _).alloc (by simp only[World.size_alloc];omega) _
 have fq0:(((w.alloc (.cells #[.int .i64 cells,.slice a n c,.int .i64 sum,.slice a' n' c'] 27)).alloc (.cells #[.slice ap np cap,.bool cp] 29)).alloc (.cells #[.int .i64 cells,.slice a n c,.int .i64 sum,.slice a' n' c'] 30)).heap[w.heap.size]?=some (.cells #[.int .i64 cells,.slice a n c,.int .i64 sum,.slice a' n' c'] 27 (0,0)):=by have h:=World.alloc_heap_new w (.cells #[.int .i64 cells,.slice a n c,.int .i64 sum,.slice a' n' c'] 27);exact (Below.heap_alloc _ _ _ (by simp only[World.size_alloc];omega)).trans ((Below.heap_alloc _ _ _ (by simp only[World.size_alloc];omega)).trans (h))
 have fq1:(((w.alloc (.cells #[.int .i64 cells,.slice a n c,.int .i64 sum,.slice a' n' c'] 27)).alloc (.cells #[.slice ap np cap,.bool cp] 29)).alloc (.cells #[.int .i64 cells,.slice a n c,.int .i64 sum,.slice a' n' c'] 30)).heap[w.heap.size+1]?=some (.cells #[.slice ap np cap,.bool cp] 29 (0,0)):=by have h:=World.alloc_heap_new (w.alloc (.cells #[.int .i64 cells,.slice a n c,.int .i64 sum,.slice a' n' c'] 27)) (.cells #[.slice ap np cap,.bool cp] 29);simp only[World.size_alloc] at h;exact (Below.heap_alloc _ _ _ (by simp only[World.size_alloc];omega)).trans (h)
 have fq2:(((w.alloc (.cells #[.int .i64 cells,.slice a n c,.int .i64 sum,.slice a' n' c'] 27)).alloc (.cells #[.slice ap np cap,.bool cp] 29)).alloc (.cells #[.int .i64 cells,.slice a n c,.int .i64 sum,.slice a' n' c'] 30)).heap[w.heap.size+1+1]?=some (.cells #[.int .i64 cells,.slice a n c,.int .i64 sum,.slice a' n' c'] 30 (0,0)):=by have h:=World.alloc_heap_new ((w.alloc (.cells #[.int .i64 cells,.slice a n c,.int .i64 sum,.slice a' n' c'] 27)).alloc (.cells #[.slice ap np cap,.bool cp] 29)) (.cells #[.int .i64 cells,.slice a n c,.int .i64 sum,.slice a' n' c'] 30);simp only[World.size_alloc] at h;exact h
 generalize (((w.alloc (.cells #[.int .i64 cells,.slice a n c,.int .i64 sum,.slice a' n' c'] 27)).alloc (.cells #[.slice ap np cap,.bool cp] 29)).alloc (.cells #[.int .i64 cells,.slice a n c,.int .i64 sum,.slice a' n' c'] 30))=W0 at fsz fB fq0 fq1 fq2 ⊢
 have HY:=Lib.hid (fun W (hb:Below W0.heap.size W0 W)=>l4 (keepq hb fq0))
 have HX:=Lib.hid (fun W (hb:Below W0.heap.size W0 W)=>l4 (keepq hb fq2))
 have HS:=Lib.hid (fun W (hb:Below W0.heap.size W0 W)=>(And.intro (q_cell (keepq hb fq1) 0) (And.intro (q_cell (keepq hb fq1) 1) (q_lt (keepq hb fq1))):W.cell? ⟨w.heap.size+1,0,none⟩=some (.slice ap np cap)∧W.cell? ⟨w.heap.size+1,1,none⟩=some (.bool cp)∧w.heap.size+1<W.heap.size))
 have hcur:Below W0.heap.size W0 W0:=Below.refl _ _
 obtain ⟨y0,y1,y2,y3,yl⟩:=HY.out _ hcur
 obtain ⟨x0,x1,x2,x3,xl⟩:=HX.out _ hcur
 obtain ⟨s0,s1,sl⟩:=HS.out _ hcur
 clear fq0 fq1 fq2 fsz
 cases fb with
 | false =>
  go_wp2_with (first|(go_at_call 9;refine (HFW.out _ (keep_trans fB hcur)).mono ?_;rintro _ w1 ⟨rfl,hb1⟩;replace hcur:=keep_trans hcur hb1;clear y0 y1 y2 y3 yl;obtain ⟨y0,y1,y2,y3,yl⟩:=HY.out _ hcur;clear x0 x1 x2 x3 xl;obtain ⟨x0,x1,x2,x3,xl⟩:=HX.out _ hcur;clear s0 s1 sl;obtain ⟨s0,s1,sl⟩:=HS.out _ hcur)|(go_at_call 22;refine (HA.out _).mono ?_;rintro _ w1 ⟨rfl,hb1⟩;replace hcur:=keep_trans hcur hb1))
  go_ret
  exact ⟨rfl,keep_trans fB hcur⟩
 | true =>
  obtain ⟨G,h5,hsy,hte,hcl,hn256⟩:=HFG.out rfl
  have HG:=Lib.hid G
  have HSY:=Lib.hid hsy
  have HTE:=Lib.hid hte
  have H5:=Lib.hid h5
  subst hcl
  clear HFG G hsy hte
  by_cases hnp:np=n'
  ·subst hnp
   have hne:((np:Int) != (np:Int))=false:=by simp
   by_cases hs0:symR (np:Int) p=0
   ·rw[hs0] at HAL
    have HPE:=Lib.hid (symR_ok HPL.out hs0)
    have HKE:=Lib.hid (fun w1 (hb:Below w.heap.size w w1)=>rkeeps_c a n c ls (np:Int) ap np cap p w1 (HRC.out.mono hb) (HP.out.mono hb) (by have:=HG.out.lines;have:=HRC.out.len;omega) (fun l hl=>⟨by have:=(HG.out.lineLen hl).1;omega,HG.out.bnd hl⟩))
    cases hk:keepsB ls p with
    | false =>
     rw[hk] at HKE
     clear hk hs0
     go_wp2_with (first|(go_at_call 9;refine (HFW.out _ (keep_trans fB hcur)).mono ?_;rintro _ w1 ⟨rfl,hb1⟩;replace hcur:=keep_trans hcur hb1;clear y0 y1 y2 y3 yl;obtain ⟨y0,y1,y2,y3,yl⟩:=HY.out _ hcur;clear x0 x1 x2 x3 xl;obtain ⟨x0,x1,x2,x3,xl⟩:=HX.out _ hcur;clear s0 s1 sl;obtain ⟨s0,s1,sl⟩:=HS.out _ hcur)|(go_at_call 10;refine (HAL.out _ (keep_trans fB hcur)).mono ?_;rintro _ w1 ⟨rfl,hb1⟩;replace hcur:=keep_trans hcur hb1;clear y0 y1 y2 y3 yl;obtain ⟨y0,y1,y2,y3,yl⟩:=HY.out _ hcur;clear x0 x1 x2 x3 xl;obtain ⟨x0,x1,x2,x3,xl⟩:=HX.out _ hcur;clear s0 s1 sl;obtain ⟨s0,s1,sl⟩:=HS.out _ hcur)|(go_at_call 21;refine (HKE.out _ (keep_trans fB hcur)).mono ?_;rintro _ w1 ⟨rfl,hb1⟩;replace hcur:=keep_trans hcur hb1;clear y0 y1 y2 y3 yl;obtain ⟨y0,y1,y2,y3,yl⟩:=HY.out _ hcur;clear x0 x1 x2 x3 xl;obtain ⟨x0,x1,x2,x3,xl⟩:=HX.out _ hcur;clear s0 s1 sl;obtain ⟨s0,s1,sl⟩:=HS.out _ hcur)|(go_at_call 22;refine (HA.out _).mono ?_;rintro _ w1 ⟨rfl,hb1⟩;replace hcur:=keep_trans hcur hb1))
     go_ret
     exact ⟨rfl,keep_trans fB hcur⟩
    | true =>
     have HKB:=Lib.hid hk
     rw[hk] at HKE
     clear hk
     have hpe:=HPE.out.2.2
     have HMT:=Lib.hid (fun w1 (hb:Below w.heap.size w w1)=>movetask_v HG.out HTE.out a n c a' c' ap cap p cp w1 (HRC.out.mono hb) hcap (HIC.out.mono hb) hcap' (HP.out.mono hb) hpe)
     have HMC:=mvE_three cp (np:Int) ls sum
     clear hs0 hpe
     go_upto_region 4 with (first|(go_at_call 9;refine (HFW.out _ (keep_trans fB hcur)).mono ?_;rintro _ w1 ⟨rfl,hb1⟩;replace hcur:=keep_trans hcur hb1;clear y0 y1 y2 y3 yl;obtain ⟨y0,y1,y2,y3,yl⟩:=HY.out _ hcur;clear x0 x1 x2 x3 xl;obtain ⟨x0,x1,x2,x3,xl⟩:=HX.out _ hcur;clear s0 s1 sl;obtain ⟨s0,s1,sl⟩:=HS.out _ hcur)|(go_at_call 10;refine (HAL.out _ (keep_trans fB hcur)).mono ?_;rintro _ w1 ⟨rfl,hb1⟩;replace hcur:=keep_trans hcur hb1;clear y0 y1 y2 y3 yl;obtain ⟨y0,y1,y2,y3,yl⟩:=HY.out _ hcur;clear x0 x1 x2 x3 xl;obtain ⟨x0,x1,x2,x3,xl⟩:=HX.out _ hcur;clear s0 s1 sl;obtain ⟨s0,s1,sl⟩:=HS.out _ hcur)|(go_at_call 21;refine (HKE.out _ (keep_trans fB hcur)).mono ?_;rintro _ w1 ⟨rfl,hb1⟩;replace hcur:=keep_trans hcur hb1;clear y0 y1 y2 y3 yl;obtain ⟨y0,y1,y2,y3,yl⟩:=HY.out _ hcur;clear x0 x1 x2 x3 xl;obtain ⟨x0,x1,x2,x3,xl⟩:=HX.out _ hcur;clear s0 s1 sl;obtain ⟨s0,s1,sl⟩:=HS.out _ hcur))
     go_wp2_with fail
     refine (HMT.out _ (keep_trans fB hcur)).mono ?_
     rintro _ w1 ⟨v,he,hmv,hb1,c1,a1,n1,k1,s1',a2,n2,k2,hv⟩
     subst hv
     subst he
     replace hcur:=keep_trans hcur hb1
     clear y0 y1 y2 y3 yl
     obtain ⟨y0,y1,y2,y3,yl⟩:=HY.out _ hcur
     clear x0 x1 x2 x3 xl
     obtain ⟨x0,x1,x2,x3,xl⟩:=HX.out _ hcur
     clear s0 s1 sl
     obtain ⟨s0,s1,sl⟩:=HS.out _ hcur
     rcases HMC with hE|hE|hE
     ·obtain ⟨al,cl,bg,pre,e9,hRCv,hcapv,hICv,_,_,_⟩:=hmv hE
      have HM:=Lib.hid (mvF_of HG.out HSY.out (by have:=H5.out;omega) HPE.out.2.2 HPL.out HGL.out hE)
      rw[hE] at *
      simp only[Value.agg.injEq,Array.mk.injEq,List.cons.injEq,Value.int.injEq,Value.slice.injEq,true_and,and_true] at e9
      obtain ⟨e1,⟨e2,e3,e4⟩,e5,e6,e7,e8⟩:=e9
      subst c1 a1 n1 k1 s1' a2 n2 k2
      have HRCv:=Lib.hid hRCv
      have HICv:=Lib.hid hICv
      clear hmv hRCv hICv hE HMT
      go_upto_region 5 with fail
      have ksz:(w1.alloc (.cells #[.int .i64 (np:Int),.slice al n cl,.int .i64 (cmS cp (np:Int) (lenV ls) sum),.slice (some ⟨bg,0,none⟩) np np] 27)).heap.size=w1.heap.size+1:=by simp only[World.size_alloc]
      have kB:Below w1.heap.size w1 (w1.alloc (.cells #[.int .i64 (np:Int),.slice al n cl,.int .i64 (cmS cp (np:Int) (lenV ls) sum),.slice (some ⟨bg,0,none⟩) np np] 27)):=(Below.refl _ _).alloc (Nat.le_refl _) _
      have kq0:(w1.alloc (.cells #[.int .i64 (np:Int),.slice al n cl,.int .i64 (cmS cp (np:Int) (lenV ls) sum),.slice (some ⟨bg,0,none⟩) np np] 27)).heap[w1.heap.size]?=some (.cells #[.int .i64 (np:Int),.slice al n cl,.int .i64 (cmS cp (np:Int) (lenV ls) sum),.slice (some ⟨bg,0,none⟩) np np] 27 (0,0)):=by have h:=World.alloc_heap_new w1 (.cells #[.int .i64 (np:Int),.slice al n cl,.int .i64 (cmS cp (np:Int) (lenV ls) sum),.slice (some ⟨bg,0,none⟩) np np] 27);exact h
      generalize (w1.alloc (.cells #[.int .i64 (np:Int),.slice al n cl,.int .i64 (cmS cp (np:Int) (lenV ls) sum),.slice (some ⟨bg,0,none⟩) np np] 27))=W3 at ksz kB kq0 ⊢
      have fB3:=keep_trans fB (keep_trans hcur kB)
      have hc3:=keep_trans hcur kB
      have HRV:=Lib.hid (HRCv.out.mono kB)
      have HIV:=Lib.hid (HICv.out.mono kB)
      have HY3:=Lib.hid (fun W (hb:Below W3.heap.size W3 W)=>HY.out W (keep_trans hc3 hb))
      have HS3:=Lib.hid (fun W (hb:Below W3.heap.size W3 W)=>HS.out W (keep_trans hc3 hb))
      have HV:=Lib.hid (fun W (hb:Below W3.heap.size W3 W)=>l4 (keepq hb kq0))
      obtain ⟨m,hm⟩:∃m,m=(solsL ls sum g []).length:=⟨_,rfl⟩
      have HKP:=Lib.hid (fun W (hb:Below W3.heap.size W3 W)=>gkeeps_c HG.out HSY.out a n c ap cap p cp W (HRC.out.mono (keep_trans fB3 hb)) hcap (HP.out.mono (keep_trans fB3 hb)) HPE.out.2.2)
      rw[HKB.out] at HKP
      have HCN:Hid (∀W,Below W3.heap.size W3 W→Calls Tryz.prog 14 #[.agg #[.int .i64 (np:Int),.slice a n c,.int .i64 sum,.slice a' np c']] W fun e w'=>e = .returned (.tuple #[.int .i64 (m:Int),.int .i64 0])∧Below W.heap.size W w'):=fun W hb=>by
       have:=count_c a n c ls (np:Int) sum a' np c' g W (HRC.out.mono (keep_trans fB3 hb)) hcap (HIC.out.mono (keep_trans fB3 hb)) hcap'
       rw[HM.out.cnt0.1,HM.out.cnt0.2,← hm] at this
       exact this
      have HCV:Hid (∀W,Below W3.heap.size W3 W→Calls Tryz.prog 14 #[.agg #[.int .i64 (np:Int),.slice al n cl,.int .i64 (cmS cp (np:Int) (lenV ls) sum),.slice (some ⟨bg,0,none⟩) np np]] W fun e w'=>e = .returned (.tuple #[.int .i64 (m:Int),.int .i64 0])∧Below W.heap.size W w'):=fun W hb=>by
       have:=count_c al n cl (ls.map (lineI p)) (np:Int) (cmS cp (np:Int) (lenV ls) sum) (some ⟨bg,0,none⟩) np np (movG cp p g) W (HRV.out.mono hb) hcapv (HIV.out.mono hb) (Nat.le_refl _)
       rw[HM.out.cntE,HM.out.cntN,← hm] at this
       exact this
      obtain ⟨hUE,hUC⟩:=mv_uniq HG.out HTE.out HM.out (by have:=H5.out;omega)
      have HUN:=Lib.hid (fun W (hb:Below W3.heap.size W3 W)=>unique_c a n c ls (np:Int) sum a' np c' g W (HRC.out.mono (keep_trans fB3 hb)) hcap (HIC.out.mono (keep_trans fB3 hb)) hcap')
      have HUV:=Lib.hid (fun W (hb:Below W3.heap.size W3 W)=>unique_c al n cl (ls.map (lineI p)) (np:Int) (cmS cp (np:Int) (lenV ls) sum) (some ⟨bg,0,none⟩) np np (movG cp p g) W (HRV.out.mono hb) hcapv (HIV.out.mono hb) (Nat.le_refl _))
      rw[hUE] at HUV
      have HREF:Hid (m=0→refErr (np:Int) (ls.map (lineI p)) (cmS cp (np:Int) (lenV ls) sum) (movG cp p g) (movT ls sum cp p ((openL g).length+1) g)=0):=fun h0=>mv_ref HGL.out HM.out (by rw[← hm];exact h0)
      have HM0:=Lib.hid hm
      have HLN:=Lib.hid HRC.out.len
      have HKM:Hid (∀k,k<n→hasLineB ls (lineI p (ls[k]?.getD []))=true):=fun k hk=>by
       have h1:=keeps_mem HKB.out (ls[k]?.getD []) (by rw[List.getElem?_eq_getElem (by rw[HLN.out];exact hk)];exact List.getElem_mem _)
       unfold hasLineB
       rw[List.contains_iff_mem]
       exact h1
      rw[← hm] at hUC
      clear hcur kq0 ksz hUE hm
      have HUC:=Lib.hid hUC
      clear hUC
      have hcur:Below W3.heap.size W3 W3:=Below.refl _ _
      clear y0 y1 y2 y3 yl x0 x1 x2 x3 xl s0 s1 sl
      obtain ⟨y0,y1,y2,y3,yl⟩:=HY3.out _ hcur
      obtain ⟨s0,s1,sl⟩:=HS3.out _ hcur
      obtain ⟨v0,v1,v2,v3,vl⟩:=HV.out _ hcur
      have hnn:((n:Int) != (n:Int))=false:=by simp
      have hn128:n≤128:=by have:=HG.out.lines;have:=HLN.out;omega
      go_upto_region 10 with (first|(go_at_call 28;refine (HKP.out _ (hcur)).mono ?_;rintro _ w1 ⟨rfl,hb1⟩;replace hcur:=keep_trans hcur hb1;clear y0 y1 y2 y3 yl;obtain ⟨y0,y1,y2,y3,yl⟩:=HY3.out _ hcur;clear s0 s1 sl;obtain ⟨s0,s1,sl⟩:=HS3.out _ hcur;clear v0 v1 v2 v3 vl;obtain ⟨v0,v1,v2,v3,vl⟩:=HV.out _ hcur))
      have HC1:=Lib.hid hcur
      obtain ⟨wb,hwb⟩:∃wb,wb=w1:=⟨_,rfl⟩
      go_wp2_with fail
      clear hcur y0 y1 y2 y3 yl s0 s1 sl v0 v1 v2 v3 vl
      go_loopw [11,98] (fun _ iv wr=>∃k:Nat,k≤n∧iv = .int .i64 k∧Below w1.heap.size w1 wr) (fun _ iv _=>n - (intOf iv).toNat)
      case atStart=>exact ⟨0,by omega,rfl,Below.refl _ _⟩
      case round =>
       obtain ⟨k,hk,rfl,hbr⟩:=hrel
       have hcur:=keep_trans HC1.out hbr
       obtain ⟨y0,y1,y2,y3,yl⟩:=HY3.out _ hcur
       obtain ⟨s0,s1,sl⟩:=HS3.out _ hcur
       obtain ⟨v0,v1,v2,v3,vl⟩:=HV.out _ hcur
       by_cases hlt:k<n
       ·have hki:(k:Int)<(n:Int):=by omega
        have HJ1:Hid (k+1≤n):=hlt
        obtain ⟨b,off,af,nf,cf,rfl,hb,hc,hif,hcf⟩:=(HRV.out.mono hcur).2 k hlt
        have HHL:=Lib.hid (hasLine_c a af n nf c cf ls ((ls.map (lineI p))[k]?.getD []) wr (HRC.out.mono (keep_trans fB3 hcur)) hif)
        have e9:(ls.map (lineI p))[k]?.getD []=lineI p (ls[k]?.getD []):=by rw[List.getElem?_map,List.getElem?_eq_getElem (by rw[HLN.out];exact hlt)];rfl
        rw[e9,HKM.out k hlt] at HHL
        clear e9 hif
        go_wp2_with fail
        refine HHL.out.mono ?_
        rintro _ w5 ⟨rfl,hb5⟩
        have HB5:=Lib.hid (keep_trans hbr hb5)
        clear y0 y1 y2 y3 yl s0 s1 sl v0 v1 v2 v3 vl
        go_wp2_with fail
        go_roundw
        case rel=>exact ⟨k+1,HJ1.out,by go_num,HB5.out⟩
        case measure=>have:=HJ1.out;simp[intOf];omega
       ·have e:k=n:=by omega
        subst k
        have hmm:((m:Int) != (m:Int))=false:=by simp
        go_upto_region 17 with (first|(go_at_call 14;refine (HCN.out _ (hcur)).mono ?_;rintro _ w1 ⟨rfl,hb1⟩;replace hcur:=keep_trans hcur hb1;clear y0 y1 y2 y3 yl;obtain ⟨y0,y1,y2,y3,yl⟩:=HY3.out _ hcur;clear s0 s1 sl;obtain ⟨s0,s1,sl⟩:=HS3.out _ hcur;clear v0 v1 v2 v3 vl;obtain ⟨v0,v1,v2,v3,vl⟩:=HV.out _ hcur))
        go_upto_region 18 with (first|(go_at_call 14;refine (HCV.out _ (hcur)).mono ?_;rintro _ w1 ⟨rfl,hb1⟩;replace hcur:=keep_trans hcur hb1;clear y0 y1 y2 y3 yl;obtain ⟨y0,y1,y2,y3,yl⟩:=HY3.out _ hcur;clear s0 s1 sl;obtain ⟨s0,s1,sl⟩:=HS3.out _ hcur;clear v0 v1 v2 v3 vl;obtain ⟨v0,v1,v2,v3,vl⟩:=HV.out _ hcur))
        go_wp2_with fail
        refine (HUN.out _ hcur).mono ?_
        rintro _ w4 ⟨aU,nU,cU,rfl,hiU,_,hb4⟩
        have HIU:=Lib.hid hiU
        replace hcur:=keep_trans hcur hb4
        clear y0 y1 y2 y3 yl
        obtain ⟨y0,y1,y2,y3,yl⟩:=HY3.out _ hcur
        clear s0 s1 sl
        obtain ⟨s0,s1,sl⟩:=HS3.out _ hcur
        clear v0 v1 v2 v3 vl
        obtain ⟨v0,v1,v2,v3,vl⟩:=HV.out _ hcur
        clear hiU
        go_wp2_with fail
        refine (HUV.out _ hcur).mono ?_
        rintro _ w5 ⟨aV,nV,cV,rfl,hiV,_,hb5⟩
        have HIV2:=Lib.hid hiV
        have HB5:=Lib.hid hb5
        replace hcur:=keep_trans hcur hb5
        clear y0 y1 y2 y3 yl
        obtain ⟨y0,y1,y2,y3,yl⟩:=HY3.out _ hcur
        clear s0 s1 sl
        obtain ⟨s0,s1,sl⟩:=HS3.out _ hcur
        clear v0 v1 v2 v3 vl
        obtain ⟨v0,v1,v2,v3,vl⟩:=HV.out _ hcur
        clear hiV
        rcases HUC.out with ⟨hu,hm0⟩|⟨hu,hsf,huv⟩|hu
        ·rw[hu] at *
         obtain ⟨hok,hml,hte2,hpr⟩:=HM.out.made (by rw[← HM0.out];exact hm0)
         have hil:=(HM.out.img (by rw[← HM0.out];exact hm0)).1
         have hre:=HM.out.refE (by rw[← HM0.out];exact hm0)
         have hlev:=HM.out.lev
         have hrf:=HREF.out hm0
         generalize hF0:(openL g).length+1=F0 at hok hml hte2 hpr hil hrf
         have HRF:Hid (∀W,Below W3.heap.size W3 W→Calls Tryz.prog 17 #[.agg #[.int .i64 (np:Int),.slice a n c,.int .i64 sum,.slice a' np c']] W fun e w'=>∃ar nr cr,e = .returned (.tuple #[.slice ar nr cr,.int .i64 0])∧TC w' ar nr (madeT ls sum F0 g)∧nr≤cr∧Below W.heap.size W w'):=fun W hb=>by
          have:=refute_c a n c ls (np:Int) sum a' np c' g F0 W (HRC.out.mono (keep_trans fB3 hb)) hcap (HIC.out.mono (keep_trans fB3 hb)) hcap' (fun _=>⟨hok,by omega⟩)
          unfold refuteT at this
          rw[hre,if_pos rfl] at this
          exact this
         have HMT2:Hid (∀W at' nt ct,Below W3.heap.size W3 W→TC W at' nt (madeT ls sum F0 g)→Calls Tryz.prog 18 #[.agg #[.int .i64 (np:Int),.slice a n c,.int .i64 sum,.slice a' np c'],.slice at' nt ct,.agg #[.slice ap np cap,.bool cp]] W fun e w'=>∃ar nr cr,e = .returned (.tuple #[.slice ar nr cr,.int .i64 0])∧TC w' ar nr (movT ls sum cp p F0 g)∧nr≤cr∧Below W.heap.size W w'):=fun W at' nt ct hb ht =>
          movetree_c HG.out HTE.out a n c a' c' ap cap p cp at' nt ct F0 W (HRC.out.mono (keep_trans fB3 hb)) hcap (HIC.out.mono (keep_trans fB3 hb)) hcap' (HP.out.mono (keep_trans fB3 hb)) HPE.out.2.2 ht hok hte2 hpr hlev (by have:=ht.1.1;omega)
         have HCR:Hid (∀W at' nt ct,Below W3.heap.size W3 W→TC W at' nt (movT ls sum cp p F0 g)→Calls Tryz.prog 32 #[.agg #[.int .i64 (np:Int),.slice al n cl,.int .i64 (cmS cp (np:Int) (lenV ls) sum),.slice (some ⟨bg,0,none⟩) np np],.slice at' nt ct] W fun e w'=>e = .returned (.int .i64 0)∧Below W.heap.size W w'):=fun W at' nt ct hb ht=>by
          have:=checkref_c al n cl (ls.map (lineI p)) (np:Int) (cmS cp (np:Int) (lenV ls) sum) (some ⟨bg,0,none⟩) np np (movG cp p g) at' nt ct _ W (HRV.out.mono hb) hcapv (HIV.out.mono hb) (Nat.le_refl _) ht
          rw[hrf] at this
          exact this
         clear hok hte2 hpr hrf hre hlev hF0 hml hil HUC
         generalize movT ls sum cp p F0 g=TI at HMT2 HCR
         go_wp2_with fail
         refine (HRF.out _ hcur).mono ?_
         rintro _ w1 ⟨ar1,nr1,cr1,rfl,htc1,_,hb1⟩
         have HMX:=Lib.hid (HMT2.out w1 ar1 nr1 cr1 (keep_trans hcur hb1) htc1)
         replace hcur:=keep_trans hcur hb1
         clear y0 y1 y2 y3 yl
         obtain ⟨y0,y1,y2,y3,yl⟩:=HY3.out _ hcur
         clear s0 s1 sl
         obtain ⟨s0,s1,sl⟩:=HS3.out _ hcur
         clear v0 v1 v2 v3 vl
         obtain ⟨v0,v1,v2,v3,vl⟩:=HV.out _ hcur
         clear htc1
         go_wp2_with fail
         refine HMX.out.mono ?_
         rintro _ w1 ⟨ar2,nr2,cr2,rfl,htc2,_,hb1⟩
         have HTC2:=Lib.hid htc2
         replace hcur:=keep_trans hcur hb1
         clear y0 y1 y2 y3 yl
         obtain ⟨y0,y1,y2,y3,yl⟩:=HY3.out _ hcur
         clear s0 s1 sl
         obtain ⟨s0,s1,sl⟩:=HS3.out _ hcur
         clear v0 v1 v2 v3 vl
         obtain ⟨v0,v1,v2,v3,vl⟩:=HV.out _ hcur
         clear htc2
         go_wp2_with (first|(go_at_call 32;refine (HCR.out _ ar2 nr2 cr2 hcur HTC2.out).mono ?_;rintro _ w2 ⟨rfl,hb2⟩;replace hcur:=keep_trans hcur hb2;clear y0 y1 y2 y3 yl;obtain ⟨y0,y1,y2,y3,yl⟩:=HY3.out _ hcur;clear s0 s1 sl;obtain ⟨s0,s1,sl⟩:=HS3.out _ hcur;clear v0 v1 v2 v3 vl;obtain ⟨v0,v1,v2,v3,vl⟩:=HV.out _ hcur)|(go_at_call 22;refine (HA.out _).mono ?_;rintro _ w1 ⟨rfl,hb1⟩;replace hcur:=keep_trans hcur hb1))
         go_ret
         exact ⟨rfl,keep_trans fB3 hcur⟩
        ·rw[hu] at *
         have hIU:IC w5 aU nU (uniqL (np:Int) ls sum g):=HIU.out.mono HB5.out
         have hUl:nU=np:=by rw[← HIU.out.len,hsf.len,HGL.out]
         subst nU
         have HAP:=Lib.hid (gapply_c ap np cap p cp aU cU (uniqL (np:Int) ls sum g) w5 (HP.out.mono (keep_trans fB3 hcur)) HPE.out.2.2 hIU (fun i hi=>by have h1:=hsf.num i (by rw[HIU.out.len];exact hi);rw[HGL.out] at h1;exact h1))
         have HIV3:Hid (IC w5 aV nV (movF cp p (uniqL (np:Int) ls sum g))):=by unfold Hid;rw[← huv];exact HIV2.out
         clear hsf huv hIU HUC HIV2
         generalize movF cp p (uniqL (np:Int) ls sum g)=R at HAP HIV3
         have hss:sameB R R=true:=by unfold sameB;simp
         go_wp2_with fail
         refine HAP.out.mono ?_
         rintro _ w6 ⟨aR,rfl,hiR,hb6⟩
         have HSM:=Lib.hid (same_c aR aV np nV np cV R R w6 hiR (HIV3.out.mono hb6))
         rw[hss] at HSM
         have HB6:=Lib.hid (keep_trans hcur hb6)
         clear hiR y0 y1 y2 y3 yl s0 s1 sl v0 v1 v2 v3 vl
         go_wp2_with (first|(go_at_call 31;refine HSM.out.mono ?_;rintro _ w7 ⟨rfl,hb7⟩)|(go_at_call 22;refine (HA.out _).mono ?_;rintro _ w8 ⟨rfl,hb8⟩))
         go_ret
         exact ⟨rfl,keep_trans fB3 (keep_trans (keep_trans HB6.out hb7) hb8)⟩
        ·rw[hu] at *
         clear HUC
         go_wp2_with (first|(go_at_call 22;refine (HA.out _).mono ?_;rintro _ w1 ⟨rfl,hb1⟩;replace hcur:=keep_trans hcur hb1))
         go_ret
         exact ⟨rfl,keep_trans fB3 hcur⟩
     ·rw[hE] at *
      clear hmv HMT
      go_upto_region 5 with fail
      have ksz:(w1.alloc (.cells #[.int .i64 c1,.slice a1 n1 k1,.int .i64 s1',.slice a2 n2 k2] 27)).heap.size=w1.heap.size+1:=by simp only[World.size_alloc]
      have kB:Below w1.heap.size w1 (w1.alloc (.cells #[.int .i64 c1,.slice a1 n1 k1,.int .i64 s1',.slice a2 n2 k2] 27)):=(Below.refl _ _).alloc (Nat.le_refl _) _
      have kq0:(w1.alloc (.cells #[.int .i64 c1,.slice a1 n1 k1,.int .i64 s1',.slice a2 n2 k2] 27)).heap[w1.heap.size]?=some (.cells #[.int .i64 c1,.slice a1 n1 k1,.int .i64 s1',.slice a2 n2 k2] 27 (0,0)):=by have h:=World.alloc_heap_new w1 (.cells #[.int .i64 c1,.slice a1 n1 k1,.int .i64 s1',.slice a2 n2 k2] 27);exact h
      generalize (w1.alloc (.cells #[.int .i64 c1,.slice a1 n1 k1,.int .i64 s1',.slice a2 n2 k2] 27))=W3 at ksz kB kq0 ⊢
      replace hcur:=keep_trans hcur kB
      clear ksz kq0
      go_wp2_with (first|(go_at_call 22;refine (HA.out _).mono ?_;rintro _ w1 ⟨rfl,hb1⟩;replace hcur:=keep_trans hcur hb1))
      go_ret
      exact ⟨rfl,keep_trans fB hcur⟩
     ·rw[hE] at *
      clear hmv HMT
      go_upto_region 5 with fail
      have ksz:(w1.alloc (.cells #[.int .i64 c1,.slice a1 n1 k1,.int .i64 s1',.slice a2 n2 k2] 27)).heap.size=w1.heap.size+1:=by simp only[World.size_alloc]
      have kB:Below w1.heap.size w1 (w1.alloc (.cells #[.int .i64 c1,.slice a1 n1 k1,.int .i64 s1',.slice a2 n2 k2] 27)):=(Below.refl _ _).alloc (Nat.le_refl _) _
      have kq0:(w1.alloc (.cells #[.int .i64 c1,.slice a1 n1 k1,.int .i64 s1',.slice a2 n2 k2] 27)).heap[w1.heap.size]?=some (.cells #[.int .i64 c1,.slice a1 n1 k1,.int .i64 s1',.slice a2 n2 k2] 27 (0,0)):=by have h:=World.alloc_heap_new w1 (.cells #[.int .i64 c1,.slice a1 n1 k1,.int .i64 s1',.slice a2 n2 k2] 27);exact h
      generalize (w1.alloc (.cells #[.int .i64 c1,.slice a1 n1 k1,.int .i64 s1',.slice a2 n2 k2] 27))=W3 at ksz kB kq0 ⊢
      replace hcur:=keep_trans hcur kB
      clear ksz kq0
      go_wp2_with (first|(go_at_call 22;refine (HA.out _).mono ?_;rintro _ w1 ⟨rfl,hb1⟩;replace hcur:=keep_trans hcur hb1))
      go_ret
      exact ⟨rfl,keep_trans fB hcur⟩
   ·have hsb:(symR (np:Int) p != 0)=true:=by simpa using hs0
    generalize symR (np:Int) p=sr at HAL hsb
    clear hs0
    go_wp2_with (first|(go_at_call 9;refine (HFW.out _ (keep_trans fB hcur)).mono ?_;rintro _ w1 ⟨rfl,hb1⟩;replace hcur:=keep_trans hcur hb1;clear y0 y1 y2 y3 yl;obtain ⟨y0,y1,y2,y3,yl⟩:=HY.out _ hcur;clear x0 x1 x2 x3 xl;obtain ⟨x0,x1,x2,x3,xl⟩:=HX.out _ hcur;clear s0 s1 sl;obtain ⟨s0,s1,sl⟩:=HS.out _ hcur)|(go_at_call 10;refine (HAL.out _ (keep_trans fB hcur)).mono ?_;rintro _ w1 ⟨rfl,hb1⟩;replace hcur:=keep_trans hcur hb1;clear y0 y1 y2 y3 yl;obtain ⟨y0,y1,y2,y3,yl⟩:=HY.out _ hcur;clear x0 x1 x2 x3 xl;obtain ⟨x0,x1,x2,x3,xl⟩:=HX.out _ hcur;clear s0 s1 sl;obtain ⟨s0,s1,sl⟩:=HS.out _ hcur)|(go_at_call 22;refine (HA.out _).mono ?_;rintro _ w1 ⟨rfl,hb1⟩;replace hcur:=keep_trans hcur hb1))
    go_ret
    exact ⟨rfl,keep_trans fB hcur⟩
  ·have hne:((np:Int) != (n':Int))=true:=by simp;omega
   go_wp2_with (first|(go_at_call 9;refine (HFW.out _ (keep_trans fB hcur)).mono ?_;rintro _ w1 ⟨rfl,hb1⟩;replace hcur:=keep_trans hcur hb1;clear y0 y1 y2 y3 yl;obtain ⟨y0,y1,y2,y3,yl⟩:=HY.out _ hcur;clear x0 x1 x2 x3 xl;obtain ⟨x0,x1,x2,x3,xl⟩:=HX.out _ hcur;clear s0 s1 sl;obtain ⟨s0,s1,sl⟩:=HS.out _ hcur)|(go_at_call 22;refine (HA.out _).mono ?_;rintro _ w1 ⟨rfl,hb1⟩;replace hcur:=keep_trans hcur hb1))
   go_ret
   exact ⟨rfl,keep_trans fB hcur⟩
end
end Go.Proofs.YtaadpihbjhachaaGreat
