/- Texts Q12 to Q12 of this proof, in one file. -/
import Derived.Test.YtaadpihbjhachaaGreatW20
import Derived.Test.YtaadpihbjhachaaGreatW26
import Derived.Test.YtaadpihbjhachaaGreatW76
namespace Go.Proofs.YtaadpihbjhachaaGreat
set_option maxRecDepth 100000
set_option maxHeartbeats 16000000
section
open Go Go.RowKit
attribute [local go_sem] zv
attribute [local go_sem] Oper.semAt_some
theorem mvE_cases (cp:Bool) (n':Int) (ls:List (List Int)) (sum:Int):mvE cp n' ls sum=0∨mvE cp n' ls sum=2∨mvE cp n' ls sum=3:=by
 unfold mvE
 split
 ·exact .inr (.inl rfl)
 ·split
  ·exact .inr (.inr rfl)
  ·exact .inl rfl
theorem fmoves_c (a:Option Addr) (n c:Nat) (ls:List (List Int)) (cells sum:Int) (a':Option Addr) (n' c':Nat) (g:List Int) (ap:Option Addr) (np cap:Nat) (p:List Int) (cp:Bool) (w:World) (h:RC w a n ls) (hcap:n≤c) (h':IC w a' n' g) (hcap':n'≤c') (hp:IC w ap np p) :
  Calls Tryz.prog 3 #[.agg #[.int .i64 cells,.slice a n c,.int .i64 sum,.slice a' n' c'],.agg #[.slice ap np cap,.bool cp]] w fun e w'=>e = .returned (.bool true)∧Below w.heap.size w w':=by
 obtain ⟨i0,hi,hz0,hz1,hz2⟩:=info_parts infoInt1
 have HA:=za awake_c
 have HFW:=za (fun w1 (hb:Below w.heap.size w w1)=>few6_c a n c ls cells sum a' n' c' g 16 5 w1 (h.mono hb) hcap (h'.mono hb) hcap')
 have HAL:=za (fun w1 (hb:Below w.heap.size w w1)=>alone_c ap np cap p cp w1 (hp.mono hb))
 have HFG:Hid (few6B 16 5 cells sum ls g=true→GoodTask cells ls sum g∧(zj g).length≤5∧zX cells ls=0∧zx cells ls sum g=0∧cells=(n':Int)∧n'≤256):=fun e=>by
  have h1:=few_good e
  have h4:=h1.1.len
  have h5:=h'.len
  have h6:=h1.1.cells2
  exact ⟨h1.1,by have:=h1.2;omega,few_sys e,taskErr_good h1.1 (few_sys e),by omega,by omega⟩
 have HRC:=za h
 have HIC:=za h'
 have HP:=za hp
 have HGL:=za h'.len
 have HPL:=za hp.len
 clear h h' hp
 generalize few6B 16 5 cells sum ls g=fb at HFW HFG
 go_enter Tryz.func3,Tryz.ntmps3
 go_upto_region 2 with fail
 have fsz:(((w.alloc (.cells #[.int .i64 cells,.slice a n c,.int .i64 sum,.slice a' n' c'] 27)).alloc (.cells #[.slice ap np cap,.bool cp] 29)).alloc (.cells #[.int .i64 cells,.slice a n c,.int .i64 sum,.slice a' n' c'] 30)).heap.size=w.heap.size+3:=by simp only[World.size_alloc] <;> omega
 have fB:Below w.heap.size w (((w.alloc (.cells #[.int .i64 cells,.slice a n c,.int .i64 sum,.slice a' n' c'] 27)).alloc (.cells #[.slice ap np cap,.bool cp] 29)).alloc (.cells #[.int .i64 cells,.slice a n c,.int .i64 sum,.slice a' n' c'] 30)):=(((Below.refl _ _).alloc (Nat.le_refl _) _).alloc (by simp only[World.size_alloc];omega) _).alloc (by simp only[World.size_alloc];omega) _
 have fq0:(((w.alloc (.cells #[.int .i64 cells,.slice a n c,.int .i64 sum,.slice a' n' c'] 27)).alloc (.cells #[.slice ap np cap,.bool cp] 29)).alloc (.cells #[.int .i64 cells,.slice a n c,.int .i64 sum,.slice a' n' c'] 30)).heap[w.heap.size]?=some (.cells #[.int .i64 cells,.slice a n c,.int .i64 sum,.slice a' n' c'] 27 (0,0)):=by have h:=World.alloc_heap_new w (.cells #[.int .i64 cells,.slice a n c,.int .i64 sum,.slice a' n' c'] 27);exact (Below.heap_alloc _ _ _ (by simp only[World.size_alloc];omega)).trans ((Below.heap_alloc _ _ _ (by simp only[World.size_alloc];omega)).trans (h))
 have fq1:(((w.alloc (.cells #[.int .i64 cells,.slice a n c,.int .i64 sum,.slice a' n' c'] 27)).alloc (.cells #[.slice ap np cap,.bool cp] 29)).alloc (.cells #[.int .i64 cells,.slice a n c,.int .i64 sum,.slice a' n' c'] 30)).heap[w.heap.size+1]?=some (.cells #[.slice ap np cap,.bool cp] 29 (0,0)):=by have h:=World.alloc_heap_new (w.alloc (.cells #[.int .i64 cells,.slice a n c,.int .i64 sum,.slice a' n' c'] 27)) (.cells #[.slice ap np cap,.bool cp] 29);simp only[World.size_alloc] at h;exact (Below.heap_alloc _ _ _ (by simp only[World.size_alloc];omega)).trans (h)
 have fq2:(((w.alloc (.cells #[.int .i64 cells,.slice a n c,.int .i64 sum,.slice a' n' c'] 27)).alloc (.cells #[.slice ap np cap,.bool cp] 29)).alloc (.cells #[.int .i64 cells,.slice a n c,.int .i64 sum,.slice a' n' c'] 30)).heap[w.heap.size+1+1]?=some (.cells #[.int .i64 cells,.slice a n c,.int .i64 sum,.slice a' n' c'] 30 (0,0)):=by have h:=World.alloc_heap_new ((w.alloc (.cells #[.int .i64 cells,.slice a n c,.int .i64 sum,.slice a' n' c'] 27)).alloc (.cells #[.slice ap np cap,.bool cp] 29)) (.cells #[.int .i64 cells,.slice a n c,.int .i64 sum,.slice a' n' c'] 30);simp only[World.size_alloc] at h;exact h
 generalize (((w.alloc (.cells #[.int .i64 cells,.slice a n c,.int .i64 sum,.slice a' n' c'] 27)).alloc (.cells #[.slice ap np cap,.bool cp] 29)).alloc (.cells #[.int .i64 cells,.slice a n c,.int .i64 sum,.slice a' n' c'] 30))=W0 at fsz fB fq0 fq1 fq2 ⊢
 have HY:=za (fun W (hb:Below W0.heap.size W0 W)=>l4 (zm hb fq0))
 have HX:=za (fun W (hb:Below W0.heap.size W0 W)=>l4 (zm hb fq2))
 have HS:=za (fun W (hb:Below W0.heap.size W0 W)=>(And.intro (zc (zm hb fq1) 0) (And.intro (zc (zm hb fq1) 1) (zy (zm hb fq1))):W.cell? ⟨w.heap.size+1,0,none⟩=some (.slice ap np cap)∧W.cell? ⟨w.heap.size+1,1,none⟩=some (.bool cp)∧w.heap.size+1<W.heap.size))
 have hcur:Below W0.heap.size W0 W0:=Below.refl _ _
 obtain ⟨y0,y1,y2,y3,yl⟩:=HY.out _ hcur
 obtain ⟨x0,x1,x2,x3,xl⟩:=HX.out _ hcur
 obtain ⟨s0,s1,sl⟩:=HS.out _ hcur
 clear fq0 fq1 fq2 fsz
 cases fb with
 | false =>
  go_wp2_with (first|(go_at_call 9;refine (HFW.out _ (zb fB hcur)).mono ?_;rintro _ w1 ⟨rfl,hb1⟩;replace hcur:=zb hcur hb1;clear y0 y1 y2 y3 yl;obtain ⟨y0,y1,y2,y3,yl⟩:=HY.out _ hcur;clear x0 x1 x2 x3 xl;obtain ⟨x0,x1,x2,x3,xl⟩:=HX.out _ hcur;clear s0 s1 sl;obtain ⟨s0,s1,sl⟩:=HS.out _ hcur)|(go_at_call 11;refine (HA.out _).mono ?_;rintro _ w1 ⟨rfl,hb1⟩;replace hcur:=zb hcur hb1))
  go_ret
  exact ⟨rfl,zb fB hcur⟩
 | true =>
  obtain ⟨G,h5,hsy,hte,hcl,hn256⟩:=HFG.out rfl
  have HG:=za G
  have HSY:=za hsy
  have HTE:=za hte
  have H5:=za h5
  subst hcl
  clear HFG G hsy hte
  by_cases hnp:np=n'
  ·subst hnp
   have hne:((np:Int) != (np:Int))=false:=by simp
   by_cases hs0:symR (np:Int) p=0
   ·rw[hs0] at HAL
    have HPE:=za (symR_ok HPL.out hs0)
    have hpe:=HPE.out.2.2
    have HMT:=za (fun w1 (hb:Below w.heap.size w w1)=>movetask_v HG.out HTE.out a n c a' c' ap cap p cp w1 (HRC.out.mono hb) hcap (HIC.out.mono hb) hcap' (HP.out.mono hb) hpe)
    have HMC:=mvE_cases cp (np:Int) ls sum
    clear hs0 hpe
    go_upto_region 4 with (first|(go_at_call 9;refine (HFW.out _ (zb fB hcur)).mono ?_;rintro _ w1 ⟨rfl,hb1⟩;replace hcur:=zb hcur hb1;clear y0 y1 y2 y3 yl;obtain ⟨y0,y1,y2,y3,yl⟩:=HY.out _ hcur;clear x0 x1 x2 x3 xl;obtain ⟨x0,x1,x2,x3,xl⟩:=HX.out _ hcur;clear s0 s1 sl;obtain ⟨s0,s1,sl⟩:=HS.out _ hcur)|(go_at_call 10;refine (HAL.out _ (zb fB hcur)).mono ?_;rintro _ w1 ⟨rfl,hb1⟩;replace hcur:=zb hcur hb1;clear y0 y1 y2 y3 yl;obtain ⟨y0,y1,y2,y3,yl⟩:=HY.out _ hcur;clear x0 x1 x2 x3 xl;obtain ⟨x0,x1,x2,x3,xl⟩:=HX.out _ hcur;clear s0 s1 sl;obtain ⟨s0,s1,sl⟩:=HS.out _ hcur))
    go_wp2_with fail
    refine (HMT.out _ (zb fB hcur)).mono ?_
    rintro _ w1 ⟨v,he,hmv,hb1,c1,a1,n1,k1,s1',a2,n2,k2,hv⟩
    subst hv
    subst he
    replace hcur:=zb hcur hb1
    clear y0 y1 y2 y3 yl
    obtain ⟨y0,y1,y2,y3,yl⟩:=HY.out _ hcur
    clear x0 x1 x2 x3 xl
    obtain ⟨x0,x1,x2,x3,xl⟩:=HX.out _ hcur
    clear s0 s1 sl
    obtain ⟨s0,s1,sl⟩:=HS.out _ hcur
    rcases HMC with hE|hE|hE
    ·obtain ⟨al,cl,bg,pre,e9,hRCv,hcapv,hICv,_,_,_⟩:=hmv hE
     have HM:=za (mvF_of HG.out HSY.out (by have:=H5.out;omega) HPE.out.2.2 HPL.out HGL.out hE)
     rw[hE] at *
     simp only[Value.agg.injEq,Array.mk.injEq,List.cons.injEq,Value.int.injEq,Value.slice.injEq,true_and,and_true] at e9
     obtain ⟨e1,⟨e2,e3,e4⟩,e5,e6,e7,e8⟩:=e9
     subst c1 a1 n1 k1 s1' a2 n2 k2
     have HRCv:=za hRCv
     have HICv:=za hICv
     clear hmv hRCv hICv hE HMT
     go_upto_region 5 with fail
     have ksz:(w1.alloc (.cells #[.int .i64 (np:Int),.slice al n cl,.int .i64 (cmS cp (np:Int) (jL ls) sum),.slice (some ⟨bg,0,none⟩) np np] 27)).heap.size=w1.heap.size+1:=by simp only[World.size_alloc]
     have kB:Below w1.heap.size w1 (w1.alloc (.cells #[.int .i64 (np:Int),.slice al n cl,.int .i64 (cmS cp (np:Int) (jL ls) sum),.slice (some ⟨bg,0,none⟩) np np] 27)):=(Below.refl _ _).alloc (Nat.le_refl _) _
     have kq0:(w1.alloc (.cells #[.int .i64 (np:Int),.slice al n cl,.int .i64 (cmS cp (np:Int) (jL ls) sum),.slice (some ⟨bg,0,none⟩) np np] 27)).heap[w1.heap.size]?=some (.cells #[.int .i64 (np:Int),.slice al n cl,.int .i64 (cmS cp (np:Int) (jL ls) sum),.slice (some ⟨bg,0,none⟩) np np] 27 (0,0)):=by have h:=World.alloc_heap_new w1 (.cells #[.int .i64 (np:Int),.slice al n cl,.int .i64 (cmS cp (np:Int) (jL ls) sum),.slice (some ⟨bg,0,none⟩) np np] 27);exact h
     generalize (w1.alloc (.cells #[.int .i64 (np:Int),.slice al n cl,.int .i64 (cmS cp (np:Int) (jL ls) sum),.slice (some ⟨bg,0,none⟩) np np] 27))=W3 at ksz kB kq0 ⊢
     have fB3:=zb fB (zb hcur kB)
     have hc3:=zb hcur kB
     have HRV:=za (HRCv.out.mono kB)
     have HIV:=za (HICv.out.mono kB)
     have HY3:=za (fun W (hb:Below W3.heap.size W3 W)=>HY.out W (zb hc3 hb))
     have HX3:=za (fun W (hb:Below W3.heap.size W3 W)=>HX.out W (zb hc3 hb))
     have HS3:=za (fun W (hb:Below W3.heap.size W3 W)=>HS.out W (zb hc3 hb))
     have HV:=za (fun W (hb:Below W3.heap.size W3 W)=>l4 (zm hb kq0))
     obtain ⟨m,hm⟩:∃m,m=(jk ls sum g []).length:=⟨_,rfl⟩
     have hm5:m≤5040:=by rw[hm];exact HM.out.few
     have HRT:Hid (∀W,Below W3.heap.size W3 W→Calls Tryz.prog 13 #[.agg #[.int .i64 (np:Int),.slice al n cl,.int .i64 (cmS cp (np:Int) (jL ls) sum),.slice (some ⟨bg,0,none⟩) np np]] W fun e w'=>e = .returned (.int .i64 0)∧Below W.heap.size W w'):=fun W hb=>by
      have:=rtask_c al n cl (ls.map (jb p)) (np:Int) (cmS cp (np:Int) (jL ls) sum) (some ⟨bg,0,none⟩) np np (jU cp p g) W (HRV.out.mono hb) hcapv (HIV.out.mono hb) (Nat.le_refl _)
      rw[HM.out.err] at this
      exact this
     have HCN:Hid (∀W,Below W3.heap.size W3 W→Calls Tryz.prog 14 #[.agg #[.int .i64 (np:Int),.slice a n c,.int .i64 sum,.slice a' np c']] W fun e w'=>e = .returned (.tuple #[.int .i64 (m:Int),.int .i64 0])∧Below W.heap.size W w'):=fun W hb=>by
      have:=count_c a n c ls (np:Int) sum a' np c' g W (HRC.out.mono (zb fB3 hb)) hcap (HIC.out.mono (zb fB3 hb)) hcap'
      rw[HM.out.cnt0.1,HM.out.cnt0.2,← hm] at this
      exact this
     have HCV:Hid (∀W,Below W3.heap.size W3 W→Calls Tryz.prog 14 #[.agg #[.int .i64 (np:Int),.slice al n cl,.int .i64 (cmS cp (np:Int) (jL ls) sum),.slice (some ⟨bg,0,none⟩) np np]] W fun e w'=>e = .returned (.tuple #[.int .i64 (m:Int),.int .i64 0])∧Below W.heap.size W w'):=fun W hb=>by
      have:=count_c al n cl (ls.map (jb p)) (np:Int) (cmS cp (np:Int) (jL ls) sum) (some ⟨bg,0,none⟩) np np (jU cp p g) W (HRV.out.mono hb) hcapv (HIV.out.mono hb) (Nat.le_refl _)
      rw[HM.out.cntE,HM.out.cntN,← hm] at this
      exact this
     obtain ⟨L8,hL8⟩:∃L8,L8=(jk ls sum g []).take 8:=⟨_,rfl⟩
     have HCM:Hid (∀W,Below W3.heap.size W3 W→Calls Tryz.prog 15 #[.agg #[.int .i64 (np:Int),.slice a n c,.int .i64 sum,.slice a' np c'],.int .i64 8] W fun e w'=>∃ar nr cr,e = .returned (.tuple #[.slice ar nr cr,.int .i64 0])∧RC w' ar nr L8∧nr≤cr∧Below W.heap.size W w'):=fun W hb=>by
      have:=comp_c a n c ls (np:Int) sum a' np c' g 8 W (HRC.out.mono (zb fB3 hb)) hcap (HIC.out.mono (zb fB3 hb)) hcap'
      have h9:=compL_small (most:=8) HTE.out (by have:=H5.out;omega) (by decide) (by decide)
      rw[h9.1,h9.2,show (8:Int).toNat=8 from rfl,← hL8] at this
      exact this
     have HL:Hid (∀k,k<L8.length→SolF ls sum g (L8[k]?.getD [])):=fun k hk=>by
      have h1:L8[k]?.getD []∈L8:=by rw[List.getElem?_eq_getElem hk];exact List.getElem_mem hk
      rw[hL8] at h1 ⊢
      exact (mem_sols HG.out).1 (List.mem_of_mem_take h1)
     have hL8l:L8.length≤8:=by rw[hL8,List.length_take];omega
     have HM0:=za hm
     clear hm hL8 hcur kq0 ksz
     have hcur:Below W3.heap.size W3 W3:=Below.refl _ _
     clear y0 y1 y2 y3 yl x0 x1 x2 x3 xl s0 s1 sl
     obtain ⟨y0,y1,y2,y3,yl⟩:=HY3.out _ hcur
     obtain ⟨x0,x1,x2,x3,xl⟩:=HX3.out _ hcur
     obtain ⟨s0,s1,sl⟩:=HS3.out _ hcur
     obtain ⟨v0,v1,v2,v3,vl⟩:=HV.out _ hcur
     go_upto_region 10 with (first|(go_at_call 13;refine (HRT.out _ (hcur)).mono ?_;rintro _ w1 ⟨rfl,hb1⟩;replace hcur:=zb hcur hb1;clear y0 y1 y2 y3 yl;obtain ⟨y0,y1,y2,y3,yl⟩:=HY3.out _ hcur;clear x0 x1 x2 x3 xl;obtain ⟨x0,x1,x2,x3,xl⟩:=HX3.out _ hcur;clear s0 s1 sl;obtain ⟨s0,s1,sl⟩:=HS3.out _ hcur;clear v0 v1 v2 v3 vl;obtain ⟨v0,v1,v2,v3,vl⟩:=HV.out _ hcur)|(go_at_call 14;refine (HCN.out _ (hcur)).mono ?_;rintro _ w1 ⟨rfl,hb1⟩;replace hcur:=zb hcur hb1;clear y0 y1 y2 y3 yl;obtain ⟨y0,y1,y2,y3,yl⟩:=HY3.out _ hcur;clear x0 x1 x2 x3 xl;obtain ⟨x0,x1,x2,x3,xl⟩:=HX3.out _ hcur;clear s0 s1 sl;obtain ⟨s0,s1,sl⟩:=HS3.out _ hcur;clear v0 v1 v2 v3 vl;obtain ⟨v0,v1,v2,v3,vl⟩:=HV.out _ hcur))
     go_upto_region 11 with (first|(go_at_call 14;refine (HCV.out _ (hcur)).mono ?_;rintro _ w1 ⟨rfl,hb1⟩;replace hcur:=zb hcur hb1;clear y0 y1 y2 y3 yl;obtain ⟨y0,y1,y2,y3,yl⟩:=HY3.out _ hcur;clear x0 x1 x2 x3 xl;obtain ⟨x0,x1,x2,x3,xl⟩:=HX3.out _ hcur;clear s0 s1 sl;obtain ⟨s0,s1,sl⟩:=HS3.out _ hcur;clear v0 v1 v2 v3 vl;obtain ⟨v0,v1,v2,v3,vl⟩:=HV.out _ hcur))
     go_upto_region 12 with (first|(go_at_call 15;refine (HCM.out _ (hcur)).mono ?_;rintro _ w1 ⟨ar,nr,cr,rfl,hRCL,hcrL,hb1⟩;replace hcur:=zb hcur hb1;clear y0 y1 y2 y3 yl;obtain ⟨y0,y1,y2,y3,yl⟩:=HY3.out _ hcur;clear x0 x1 x2 x3 xl;obtain ⟨x0,x1,x2,x3,xl⟩:=HX3.out _ hcur;clear s0 s1 sl;obtain ⟨s0,s1,sl⟩:=HS3.out _ hcur;clear v0 v1 v2 v3 vl;obtain ⟨v0,v1,v2,v3,vl⟩:=HV.out _ hcur))
     have hnr:=hRCL.len
     have HRL:=za hRCL
     have HC1:=za hcur
     have hmm:((m:Int) != (m:Int))=false:=by simp
     clear hRCL hcur y0 y1 y2 y3 yl x0 x1 x2 x3 xl s0 s1 sl v0 v1 v2 v3 vl
     go_wp2_with fail
     go_loopw [15,16,17,18,19,20,92,107] (fun _ _ _ _ _ _ iv _ wr=>∃k:Nat,k≤nr∧iv = .int .i64 k∧Below w1.heap.size w1 wr) (fun _ _ _ _ _ _ iv _ _=>nr - (intOf iv).toNat)
     case atStart=>exact ⟨0,by omega,rfl,Below.refl _ _⟩
     case round =>
      obtain ⟨k,hk,rfl,hbr⟩:=hrel
      have hcur:=zb HC1.out hbr
      obtain ⟨y0,y1,y2,y3,yl⟩:=HY3.out _ hcur
      obtain ⟨x0,x1,x2,x3,xl⟩:=HX3.out _ hcur
      obtain ⟨s0,s1,sl⟩:=HS3.out _ hcur
      obtain ⟨v0,v1,v2,v3,vl⟩:=HV.out _ hcur
      by_cases hlt:k<nr
      ·have hki:(k:Int)<(nr:Int):=by omega
       obtain ⟨b,off,af,nf,cf,rfl,hb,hc,hif,hcf⟩:=(HRL.out.mono hbr).2 k hlt
       have hsf:=HL.out k (by omega)
       generalize L8[k]?.getD []=f at hif hsf
       have hnf:nf=np:=by rw[← hif.len,hsf.len,HGL.out]
       subst nf
       have hfl:=hif.len
       have HFB:Hid (∀i,i<np→1≤f[i]?.getD 0∧f[i]?.getD 0≤(np:Int)):=fun i hi=>by have:=hsf.num i (by omega);rw[HGL.out] at this;exact this
       have HSO:Hid (∀W ag cg,Below W3.heap.size W3 W→IC W ag np (movF cp p f)→Calls Tryz.prog 16 #[.agg #[.int .i64 (np:Int),.slice al n cl,.int .i64 (cmS cp (np:Int) (jL ls) sum),.slice (some ⟨bg,0,none⟩) np np],.slice ag np cg] W fun e w'=>e = .returned (.tuple #[.bool true,.int .i64 0])∧Below W.heap.size W w'):=fun W ag cg hb hi=>by
        have:=fsol_c al n cl (ls.map (jb p)) (np:Int) (cmS cp (np:Int) (jL ls) sum) (some ⟨bg,0,none⟩) np np (jU cp p g) ag np cg (movF cp p f) W (HRV.out.mono hb) hcapv (HIV.out.mono hb) (Nat.le_refl _) hi
        rw[(HM.out.sol f hsf).2.1,(HM.out.sol f hsf).2.2] at this
        exact this
       have HPN:Hid (∀k,k<np→0≤p[k]?.getD 0∧p[k]?.getD 0<(np:Int)):=fun k hk=>by have:=HPE.out.2.1.num k (by rw[HPL.out];exact hk);rw[HPL.out] at this;exact this
       have HE:Hid (movF cp p f=kf p (f.map (cmN cp (np:Int))) np):=by unfold Hid movF movL;rw[List.length_map,hfl]
       have HM1:Hid ((List.replicate np (0:Int))=kf p (f.map (cmN cp (np:Int))) 0):=by unfold Hid;rw[movTo_zero,List.length_map,hfl]
       have HMS:Hid (∀k,k<np→(kf p (f.map (cmN cp (np:Int))) k).set (p[k]?.getD 0).toNat (cmN cp (np:Int) (f[k]?.getD 0))=kf p (f.map (cmN cp (np:Int))) (k+1)):=fun k hk=>by rw[movTo_succ,map_get (by omega)]
       have HML:Hid (∀k,(kf p (f.map (cmN cp (np:Int))) k).length=np):=fun k=>by rw[movTo_len,List.length_map,hfl]
       have HF:=za hif
       clear hsf hfl hif
       generalize movF cp p f=r at HE HSO
       generalize kf p (f.map (cmN cp (np:Int)))=M at HE HM1 HMS HML
       go_upto_region 19 with fail
       rename World=>wo
       clear y0 y1 y2 y3 yl x0 x1 x2 x3 xl s0 s1 sl v0 v1 v2 v3 vl
       go_wp2_with (refine wpList_make_full _ rfl _ _ 25 rfl wo.heap.size 3 i0 (.int .i64 0) 1 Tryz.underlying25 hi hz0 hz1 _ _ _ _ np rfl rfl (by simp) (by simp) (by rw[hz2];omega) (by unfold maxLen;omega) (Nat.le_refl _) ?_;intro W4 hown4 hgr4)
       rw[made_zero np,HM1.out] at hown4
       have hB4:Below wo.heap.size wo W4:=(Below.refl wo.heap.size wo).grown hgr4 (Nat.le_refl _) (fun k e=>by cases e)
       clear hgr4
       go_loopw [17,18,107] (fun _ _ iv wq=>∃q:Nat,q≤np∧iv = .int .i64 q∧wq.ownsRow wo.heap.size 3 1 (.slice (some ⟨wo.heap.size,0,none⟩) np np) np ((M q).map (Value.int .i64))∧Below wo.heap.size wo wq) (fun _ _ iv _=>np - (intOf iv).toNat)
       case atStart=>exact ⟨0,by omega,rfl,hown4,hB4⟩
       case round =>
        obtain ⟨q,hq,rfl,hown,hbq⟩:=hrel
        have hBq:=zb hcur hbq
        obtain ⟨s0,s1,sl⟩:=HS3.out _ hBq
        by_cases hlt2:q<np
        ·have hqi:(q:Int)<(np:Int):=by omega
         obtain ⟨b5,o5,rfl,hb5,hc5⟩:=(HP.out.mono (zb fB3 hBq)).2 q hlt2
         obtain ⟨b6,o6,rfl,hb6,hc6⟩:=(HF.out.mono hbq).2 q hlt2
         have HMk:=za (HMS.out q hlt2)
         have hpk:=HPN.out q hlt2
         have hfk:=HFB.out q hlt2
         obtain ⟨t,ht⟩:=Int.eq_ofNat_of_zero_le hpk.1
         rw[ht] at hpk hc5 HMk
         clear ht
         rw[Int.toNat_natCast] at HMk
         have htn:t<np:=by omega
         have hti:(t:Int)<(np:Int):=by omega
         generalize f[q]?.getD 0=x at hc6 HMk hfk
         obtain ⟨g9,c9,x9,e9,hx9,hcell9,hfr9,hlt9,hn9⟩:=jq (zI hown (Nat.zero_le _)) t htn
         simp only[Value.slice.injEq,Option.some.injEq,Addr.mk.injEq,true_and,and_true] at e9
         obtain ⟨e9,hcap9⟩:=e9
         subst e9
         have HSO2:Hid (∀v:Int,v=cmN cp (np:Int) x→(wr.setCell ⟨wo.heap.size,t,none⟩ (.int .i64 v)).ownsRow wo.heap.size 3 1 (.slice (some ⟨wo.heap.size,0,none⟩) np np) np ((M (q+1)).map (Value.int .i64))):=fun v hv=>by
          have h1:=qJ hown t (.int .i64 v)
          rw[hv,← List.map_set,HMk.out,← hv] at h1
          exact h1
         have HSB:Hid (∀u,Below wo.heap.size wo (wr.setCell ⟨wo.heap.size,t,none⟩ u)):=fun u=>hbq.setCell (p:=⟨wo.heap.size,t,none⟩) (Nat.le_refl _) u
         clear hx9 hcap9 hown
         cases cp with
         | true =>
          go_wp2_with fail
          go_roundw
          case rel=>exact ⟨q+1,by omega,by go_num,HSO2.out _ (by unfold cmN;rw[if_pos rfl]),HSB.out _⟩
          case measure=>simp[intOf];omega
         | false =>
          go_wp2_with fail
          go_roundw
          case rel=>exact ⟨q+1,by omega,by go_num,HSO2.out _ (by unfold cmN;rw[if_neg (by decide)]),HSB.out _⟩
          case measure=>simp[intOf];omega
        ·have e:q=np:=by omega
         subst e
         rw[← HE.out] at hown
         have hrl:r.length=q:=by rw[HE.out];exact HML.out q
         have hic:IC wr (some ⟨wo.heap.size,0,none⟩) q r:=by
          have h1:wr.ownsRow wo.heap.size 3 1 (.slice (some ⟨wo.heap.size,0,none⟩) r.length r.length) r.length (r.map (Value.int .i64)):=by rw[hrl];exact hown
          have h2:=(IC.of_owns h1 (by omega)).1
          rw[hrl] at h2
          exact h2
         have HSX:=za (HSO.out wr (some ⟨wo.heap.size,0,none⟩) q hBq hic)
         obtain ⟨v0,v1,v2,v3,vl⟩:=HV.out _ hBq
         clear hic hrl hown
         go_wp2_with fail
         refine HSX.out.mono ?_
         rintro _ w5 ⟨rfl,hb5⟩
         clear v0 v1 v2 v3 vl s0 s1 sl
         go_wp2_with fail
         go_roundw
         case rel=>exact ⟨k+1,by omega,by go_num,zb hbr (zb hbq hb5)⟩
         case measure=>simp[intOf];omega
      ·have e:k=nr:=by omega
       subst e
       by_cases hm0:m=0
       ·have hm9:¬(m:Int)>0:=by omega
        obtain ⟨hok,hml,hte2,hpr⟩:=HM.out.made (by rw[← HM0.out];exact hm0)
        obtain ⟨hil,hit,hip⟩:=HM.out.img (by rw[← HM0.out];exact hm0)
        have hre:=HM.out.refE (by rw[← HM0.out];exact hm0)
        have hlev:=HM.out.lev
        generalize hF0:(zj g).length+1=F0 at hok hml hte2 hpr hil hit hip
        have HRF:Hid (∀W,Below W3.heap.size W3 W→Calls Tryz.prog 17 #[.agg #[.int .i64 (np:Int),.slice a n c,.int .i64 sum,.slice a' np c']] W fun e w'=>∃ar nr cr,e = .returned (.tuple #[.slice ar nr cr,.int .i64 0])∧TC w' ar nr (ji ls sum F0 g)∧nr≤cr∧Below W.heap.size W w'):=fun W hb=>by
         have:=refute_c a n c ls (np:Int) sum a' np c' g F0 W (HRC.out.mono (zb fB3 hb)) hcap (HIC.out.mono (zb fB3 hb)) hcap' (fun _=>⟨hok,by omega⟩)
         unfold refuteT at this
         rw[hre,if_pos rfl] at this
         exact this
        have HMT2:Hid (∀W at' nt ct,Below W3.heap.size W3 W→TC W at' nt (ji ls sum F0 g)→Calls Tryz.prog 18 #[.agg #[.int .i64 (np:Int),.slice a n c,.int .i64 sum,.slice a' np c'],.slice at' nt ct,.agg #[.slice ap np cap,.bool cp]] W fun e w'=>∃ar nr cr,e = .returned (.tuple #[.slice ar nr cr,.int .i64 0])∧TC w' ar nr (qC ls sum cp p F0 g)∧nr≤cr∧Below W.heap.size W w'):=fun W at' nt ct hb ht =>
         movetree_c HG.out HTE.out a n c a' c' ap cap p cp at' nt ct F0 W (HRC.out.mono (zb fB3 hb)) hcap (HIC.out.mono (zb fB3 hb)) hcap' (HP.out.mono (zb fB3 hb)) HPE.out.2.2 ht hok hte2 hpr hlev (by have:=ht.1.1;omega)
        have HCT:Hid (∀W at' nt ct,Below W3.heap.size W3 W→TC W at' nt (qC ls sum cp p F0 g)→Calls Tryz.prog 19 #[.agg #[.int .i64 (np:Int),.slice al n cl,.int .i64 (cmS cp (np:Int) (jL ls) sum),.slice (some ⟨bg,0,none⟩) np np],.slice at' nt ct] W fun e w'=>e = .returned (.int .i64 0)∧Below W.heap.size W w'):=fun W at' nt ct hb ht=>by
         have:=rtree_c (.int .i64 (np:Int)) (.slice al n cl) (.int .i64 (cmS cp (np:Int) (jL ls) sum)) (some ⟨bg,0,none⟩) np np at' nt ct _ W ht
         rw[hit] at this
         exact this
        have HRR:Hid (∀W at' nt ct,Below W3.heap.size W3 W→TC W at' nt (qC ls sum cp p F0 g)→Calls Tryz.prog 20 #[.agg #[.int .i64 (np:Int),.slice al n cl,.int .i64 (cmS cp (np:Int) (jL ls) sum),.slice (some ⟨bg,0,none⟩) np np],.slice at' nt ct] W fun e w'=>e = .returned (.bool true)∧Below W.heap.size W w'):=fun W at' nt ct hb ht=>by
         have:=rrefutes_c HM.out.good al n cl (some ⟨bg,0,none⟩) np np at' nt ct _ W (HRV.out.mono hb) (HIV.out.mono hb) ht (tree_kinds hit)
         rw[hip] at this
         exact this
        clear hok hte2 hpr hit hip hre hlev hF0 hml
        generalize qC ls sum cp p F0 g=TI at HMT2 HCT HRR hil
        go_wp2_with fail
        refine (HRF.out _ hcur).mono ?_
        rintro _ w1 ⟨ar1,nr1,cr1,rfl,htc1,_,hb1⟩
        have HMX:=za (HMT2.out w1 ar1 nr1 cr1 (zb hcur hb1) htc1)
        replace hcur:=zb hcur hb1
        clear y0 y1 y2 y3 yl
        obtain ⟨y0,y1,y2,y3,yl⟩:=HY3.out _ hcur
        clear x0 x1 x2 x3 xl
        obtain ⟨x0,x1,x2,x3,xl⟩:=HX3.out _ hcur
        clear s0 s1 sl
        obtain ⟨s0,s1,sl⟩:=HS3.out _ hcur
        clear v0 v1 v2 v3 vl
        obtain ⟨v0,v1,v2,v3,vl⟩:=HV.out _ hcur
        clear htc1
        go_wp2_with fail
        refine HMX.out.mono ?_
        rintro _ w1 ⟨ar2,nr2,cr2,rfl,htc2,_,hb1⟩
        have hn2:=htc2.1.1
        have HTC2:=za htc2
        have HX2:=za (zb hcur hb1)
        replace hcur:=zb hcur hb1
        clear y0 y1 y2 y3 yl
        obtain ⟨y0,y1,y2,y3,yl⟩:=HY3.out _ hcur
        clear x0 x1 x2 x3 xl
        obtain ⟨x0,x1,x2,x3,xl⟩:=HX3.out _ hcur
        clear s0 s1 sl
        obtain ⟨s0,s1,sl⟩:=HS3.out _ hcur
        clear v0 v1 v2 v3 vl
        obtain ⟨v0,v1,v2,v3,vl⟩:=HV.out _ hcur
        have hd5:decide ((nr2:Int)≤20000)=true:=decide_eq_true (by omega)
        clear htc2
        go_wp2_with (first|(go_at_call 19;refine (HCT.out _ ar2 nr2 cr2 hcur HTC2.out).mono ?_;rintro _ w2 ⟨rfl,hb2⟩;replace hcur:=zb hcur hb2;clear y0 y1 y2 y3 yl;obtain ⟨y0,y1,y2,y3,yl⟩:=HY3.out _ hcur;clear x0 x1 x2 x3 xl;obtain ⟨x0,x1,x2,x3,xl⟩:=HX3.out _ hcur;clear s0 s1 sl;obtain ⟨s0,s1,sl⟩:=HS3.out _ hcur;clear v0 v1 v2 v3 vl;obtain ⟨v0,v1,v2,v3,vl⟩:=HV.out _ hcur)|(go_at_call 20;refine (HRR.out _ ar2 nr2 cr2 hcur (HTC2.out.mono hb2)).mono ?_;rintro _ w3 ⟨rfl,hb3⟩;replace hcur:=zb hcur hb3;clear y0 y1 y2 y3 yl;obtain ⟨y0,y1,y2,y3,yl⟩:=HY3.out _ hcur;clear x0 x1 x2 x3 xl;obtain ⟨x0,x1,x2,x3,xl⟩:=HX3.out _ hcur;clear s0 s1 sl;obtain ⟨s0,s1,sl⟩:=HS3.out _ hcur;clear v0 v1 v2 v3 vl;obtain ⟨v0,v1,v2,v3,vl⟩:=HV.out _ hcur)|(go_at_call 11;refine (HA.out _).mono ?_;rintro _ w1 ⟨rfl,hb1⟩;replace hcur:=zb hcur hb1))
        go_ret
        exact ⟨rfl,zb fB3 hcur⟩
       ·have hm9:(m:Int)>0:=by omega
        go_wp2_with (first|(go_at_call 11;refine (HA.out _).mono ?_;rintro _ w1 ⟨rfl,hb1⟩;replace hcur:=zb hcur hb1))
        go_ret
        exact ⟨rfl,zb fB3 hcur⟩
    ·rw[hE] at *
     clear hmv HMT
     go_upto_region 5 with fail
     have ksz:(w1.alloc (.cells #[.int .i64 c1,.slice a1 n1 k1,.int .i64 s1',.slice a2 n2 k2] 27)).heap.size=w1.heap.size+1:=by simp only[World.size_alloc]
     have kB:Below w1.heap.size w1 (w1.alloc (.cells #[.int .i64 c1,.slice a1 n1 k1,.int .i64 s1',.slice a2 n2 k2] 27)):=(Below.refl _ _).alloc (Nat.le_refl _) _
     have kq0:(w1.alloc (.cells #[.int .i64 c1,.slice a1 n1 k1,.int .i64 s1',.slice a2 n2 k2] 27)).heap[w1.heap.size]?=some (.cells #[.int .i64 c1,.slice a1 n1 k1,.int .i64 s1',.slice a2 n2 k2] 27 (0,0)):=by have h:=World.alloc_heap_new w1 (.cells #[.int .i64 c1,.slice a1 n1 k1,.int .i64 s1',.slice a2 n2 k2] 27);exact h
     generalize (w1.alloc (.cells #[.int .i64 c1,.slice a1 n1 k1,.int .i64 s1',.slice a2 n2 k2] 27))=W3 at ksz kB kq0 ⊢
     replace hcur:=zb hcur kB
     clear ksz kq0
     go_wp2_with (first|(go_at_call 11;refine (HA.out _).mono ?_;rintro _ w1 ⟨rfl,hb1⟩;replace hcur:=zb hcur hb1))
     go_ret
     exact ⟨rfl,zb fB hcur⟩
    ·rw[hE] at *
     clear hmv HMT
     go_upto_region 5 with fail
     have ksz:(w1.alloc (.cells #[.int .i64 c1,.slice a1 n1 k1,.int .i64 s1',.slice a2 n2 k2] 27)).heap.size=w1.heap.size+1:=by simp only[World.size_alloc]
     have kB:Below w1.heap.size w1 (w1.alloc (.cells #[.int .i64 c1,.slice a1 n1 k1,.int .i64 s1',.slice a2 n2 k2] 27)):=(Below.refl _ _).alloc (Nat.le_refl _) _
     have kq0:(w1.alloc (.cells #[.int .i64 c1,.slice a1 n1 k1,.int .i64 s1',.slice a2 n2 k2] 27)).heap[w1.heap.size]?=some (.cells #[.int .i64 c1,.slice a1 n1 k1,.int .i64 s1',.slice a2 n2 k2] 27 (0,0)):=by have h:=World.alloc_heap_new w1 (.cells #[.int .i64 c1,.slice a1 n1 k1,.int .i64 s1',.slice a2 n2 k2] 27);exact h
     generalize (w1.alloc (.cells #[.int .i64 c1,.slice a1 n1 k1,.int .i64 s1',.slice a2 n2 k2] 27))=W3 at ksz kB kq0 ⊢
     replace hcur:=zb hcur kB
     clear ksz kq0
     go_wp2_with (first|(go_at_call 11;refine (HA.out _).mono ?_;rintro _ w1 ⟨rfl,hb1⟩;replace hcur:=zb hcur hb1))
     go_ret
     exact ⟨rfl,zb fB hcur⟩
   ·have hsb:(symR (np:Int) p != 0)=true:=by simpa using hs0
    generalize symR (np:Int) p=sr at HAL hsb
    clear hs0
    go_wp2_with (first|(go_at_call 9;refine (HFW.out _ (zb fB hcur)).mono ?_;rintro _ w1 ⟨rfl,hb1⟩;replace hcur:=zb hcur hb1;clear y0 y1 y2 y3 yl;obtain ⟨y0,y1,y2,y3,yl⟩:=HY.out _ hcur;clear x0 x1 x2 x3 xl;obtain ⟨x0,x1,x2,x3,xl⟩:=HX.out _ hcur;clear s0 s1 sl;obtain ⟨s0,s1,sl⟩:=HS.out _ hcur)|(go_at_call 10;refine (HAL.out _ (zb fB hcur)).mono ?_;rintro _ w1 ⟨rfl,hb1⟩;replace hcur:=zb hcur hb1;clear y0 y1 y2 y3 yl;obtain ⟨y0,y1,y2,y3,yl⟩:=HY.out _ hcur;clear x0 x1 x2 x3 xl;obtain ⟨x0,x1,x2,x3,xl⟩:=HX.out _ hcur;clear s0 s1 sl;obtain ⟨s0,s1,sl⟩:=HS.out _ hcur)|(go_at_call 11;refine (HA.out _).mono ?_;rintro _ w1 ⟨rfl,hb1⟩;replace hcur:=zb hcur hb1))
    go_ret
    exact ⟨rfl,zb fB hcur⟩
  ·have hne:((np:Int) != (n':Int))=true:=by simp;omega
   go_wp2_with (first|(go_at_call 9;refine (HFW.out _ (zb fB hcur)).mono ?_;rintro _ w1 ⟨rfl,hb1⟩;replace hcur:=zb hcur hb1;clear y0 y1 y2 y3 yl;obtain ⟨y0,y1,y2,y3,yl⟩:=HY.out _ hcur;clear x0 x1 x2 x3 xl;obtain ⟨x0,x1,x2,x3,xl⟩:=HX.out _ hcur;clear s0 s1 sl;obtain ⟨s0,s1,sl⟩:=HS.out _ hcur)|(go_at_call 11;refine (HA.out _).mono ?_;rintro _ w1 ⟨rfl,hb1⟩;replace hcur:=zb hcur hb1))
   go_ret
   exact ⟨rfl,zb fB hcur⟩
end
end Go.Proofs.YtaadpihbjhachaaGreat
