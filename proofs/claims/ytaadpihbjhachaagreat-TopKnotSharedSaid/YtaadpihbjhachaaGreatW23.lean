/- Texts B23 to Q13 of this proof, in one file. -/
import Derived.Test.YtaadpihbjhachaaGreatW14
import Derived.Test.YtaadpihbjhachaaGreatW16
import Derived.Test.YtaadpihbjhachaaGreatW20
import Derived.Test.YtaadpihbjhachaaGreatW21
import Derived.Test.YtaadpihbjhachaaGreatW22
namespace Go.Proofs.YtaadpihbjhachaaGreat
set_option maxRecDepth 100000
set_option maxHeartbeats 16000000
section
open Go Go.RowKit
attribute [local go_sem] over_cell
attribute [local go_sem] Oper.semAt_some
def fndB (ls:List (List Int)) (m:List Int) (k:Nat):Bool:=hasLineB (ls.take k) m
theorem fndB_succ {ls:List (List Int)} {m:List Int} {k:Nat} (h:k<ls.length):fndB ls m (k+1)=(fndB ls m k||sameB m (ls[k]?.getD [])):=by
 unfold fndB hasLineB sameB
 rw[take_snoc ls [] k h,Bool.eq_iff_iff,List.contains_iff_mem,Bool.or_eq_true,List.contains_iff_mem,decide_eq_true_eq,List.mem_append,List.mem_singleton]
theorem fndB_all {ls:List (List Int)} {m:List Int}:fndB ls m ls.length=hasLineB ls m:=by unfold fndB;rw[List.take_length]
theorem keeps_no {ls:List (List Int)} {p:List Int} {k:Nat} (hk:k<ls.length) (h:hasLineB ls (imgQ p (ls[k]?.getD []))=false):keepsB ls p=false:=by
 unfold keepsB
 rw[List.all_eq_false]
 refine ⟨ls[k]?.getD [],by rw[List.getElem?_eq_getElem hk];exact List.getElem_mem hk,?_⟩
 rw[h];decide
theorem keeps_yes {ls:List (List Int)} {p:List Int} (h:∀k,k<ls.length→hasLineB ls (imgQ p (ls[k]?.getD []))=true):keepsB ls p=true:=by
 unfold keepsB
 rw[List.all_eq_true]
 intro l hl
 obtain ⟨k,hk,e⟩:=List.getElem_of_mem hl
 have:=h k hk
 rw[List.getElem?_eq_getElem hk,e] at this
 exact this
theorem rkeeps_c (a:Option Addr) (n c:Nat) (ls:List (List Int)) (cells:Int) (ap:Option Addr) (np cp:Nat) (p:List Int) (w:World) (h:RC w a n ls) (hp:IC w ap np p) (hn:n≤128)
  (hl:∀l,l∈ls→l.length≤1000∧∀x,x∈l→0≤x∧x<(np:Int)) :
  Calls Tryz.prog 21 #[.agg #[.int .i64 cells,.slice a n c],.slice ap np cp] w fun e w'=>e = .returned (.bool (keepsB ls p))∧Below w.heap.size w w':=by
 have H:=Lib.hid h
 have HP:=Lib.hid hp
 have hll:=h.len
 have HLL:=Lib.hid hll
 have HL:Hid (∀k,k<n→(ls[k]?.getD []).length≤1000∧∀x,x∈ls[k]?.getD []→0≤x∧x<(np:Int)):=fun k hk=>hl _ (by rw[List.getElem?_eq_getElem (by omega)];exact List.getElem_mem _)
 have HNO:Hid (∀k,k<n→hasLineB ls (imgQ p (ls[k]?.getD []))=false→keepsB ls p=false):=fun k hk h=>keeps_no (by omega) h
 have HYES:Hid ((∀k,k<n→hasLineB ls (imgQ p (ls[k]?.getD []))=true)→keepsB ls p=true):=fun h=>keeps_yes (fun k hk=>h k (by omega))
 generalize keepsB ls p=kb at HNO HYES ⊢
 clear h hp hl hll
 go_enter Tryz.func21,Tryz.ntmps21
 go_wp2_with fail
 have fsz:(w.alloc (.cells #[.int .i64 cells,.slice a n c] 24)).heap.size=w.heap.size+1:=by simp only[World.size_alloc]
 have fB:Below w.heap.size w (w.alloc (.cells #[.int .i64 cells,.slice a n c] 24)):=(Below.refl _ _).alloc (Nat.le_refl _) _
 have fq0:(w.alloc (.cells #[.int .i64 cells,.slice a n c] 24)).heap[w.heap.size]?=some (.cells #[.int .i64 cells,.slice a n c] 24 (0,0)):=by have h:=World.alloc_heap_new w (.cells #[.int .i64 cells,.slice a n c] 24);exact h
 generalize (w.alloc (.cells #[.int .i64 cells,.slice a n c] 24))=W0 at fsz fB fq0 ⊢
 have HX:=Lib.hid (fun W (hb:Below W0.heap.size W0 W)=>(And.intro (q_cell (keepq hb fq0) 1) (q_lt (keepq hb fq0)):W.cell? ⟨w.heap.size,1,none⟩=some (.slice a n c)∧w.heap.size<W.heap.size))
 obtain ⟨x1,xl⟩:=HX.out _ (Below.refl _ _)
 clear fq0 fsz
 go_wp2_with fail
 clear x1 xl
 go_loopw [5,6,7,8] (fun iv _ _ _ wr=>∃(k:Nat),k≤n∧iv = .int .i64 k∧Hid (∀j,j<k→hasLineB ls (imgQ p (ls[j]?.getD []))=true)∧Below W0.heap.size W0 wr) (fun iv _ _ _ _=>n - (intOf iv).toNat)
 case atStart=>exact ⟨0,by omega,rfl,fun j hj=>by omega,Below.refl _ _⟩
 case round =>
  obtain ⟨k,hk,rfl,hup,hbr⟩:=hrel
  obtain ⟨x1,xl⟩:=HX.out _ hbr
  have hbw:=keep_trans fB hbr
  by_cases hlt:k<n
  ·have hki:(k:Int)<(n:Int):=by omega
   obtain ⟨b,off,al,nl,cl,rfl,hb,hc,hil,_⟩:=(H.out.mono hbw).2 k hlt
   have hln:=HL.out k hlt
   have hnl:=hil.len
   have HIM:=Lib.hid (rimage_c ap np cp p al nl cl (ls[k]?.getD []) wr (HP.out.mono hbw) hil (by omega) (fun j hj=>hln.2 _ (by rw[List.getElem?_eq_getElem (show j<(ls[k]?.getD []).length by omega)];exact List.getElem_mem _)))
   have HIL:Hid ((imgQ p (ls[k]?.getD [])).length=nl):=by unfold Hid;have:=imgTo_len p (ls[k]?.getD []) (Nat.le_refl _);unfold imgQ;omega
   have hn1000:nl≤1000:=by omega
   have HNOk:=Lib.hid (HNO.out k hlt)
   have HUPk:Hid (hasLineB ls (imgQ p (ls[k]?.getD []))=true→∀j,j<k+1→hasLineB ls (imgQ p (ls[j]?.getD []))=true):=fun h j hj=>by
    by_cases e:j=k
    ·rw[e];exact h
    ·exact hup.out j (by omega)
   clear hil hln hnl
   generalize hM:imgQ p (ls[k]?.getD [])=M at HIM HIL HNOk HUPk
   clear hM
   go_wp2_with fail
   refine HIM.out.mono ?_
   rintro _ w1 ⟨v1,rfl,hown1,hb1⟩
   obtain ⟨a1,c1,rfl⟩:=owns_shape hown1
   have HIC:Hid (IC w1 a1 nl M):=by
    have h1:w1.ownsRow wr.heap.size 3 1 (.slice a1 M.length c1) M.length (M.map (Value.int .i64)):=by rw[HIL.out];exact hown1
    have h2:=(IC.of_owns h1 (by rw[HIL.out];omega)).1
    rw[HIL.out] at h2
    exact h2
   have HB1:=Lib.hid (keep_trans hbr hb1)
   clear x1 xl hown1 HIM hb1
   obtain ⟨x1,xl⟩:=HX.out _ HB1.out
   go_wp2_with fail
   clear x1 xl
   go_loopw [7,8] (fun fv iv wq=>∃(j:Nat),j≤n∧iv = .int .i64 j∧fv = .bool (fndB ls M j)∧Below w1.heap.size w1 wq) (fun _ iv _=>n - (intOf iv).toNat)
   case atStart=>exact ⟨0,by omega,rfl,rfl,Below.refl _ _⟩
   case round =>
    obtain ⟨j,hj,rfl,rfl,hbq⟩:=hrel
    have hBq:=keep_trans HB1.out hbq
    obtain ⟨x1,xl⟩:=HX.out _ hBq
    by_cases hlt2:j<n
    ·have hji:(j:Int)<(n:Int):=by omega
     obtain ⟨b2,off2,am,nm,cm,e2,hb2,hc2,him,_⟩:=(H.out.mono (keep_trans fB hBq)).2 j hlt2
     simp only[Option.some.injEq,Addr.mk.injEq,and_true] at e2
     obtain ⟨rfl,rfl⟩:=e2
     have HFS:=Lib.hid (fndB_succ (ls:=ls) (m:=M) (k:=j) (by rw[HLL.out];exact hlt2))
     have HSM:=Lib.hid (same_c a1 am nl nm c1 cm M (ls[j]?.getD []) wr (HIC.out.mono hbq) him)
     clear him
     generalize sameB M (ls[j]?.getD [])=sb at HFS HSM
     cases hfd:fndB ls M j with
     | true =>
      rw[hfd] at HFS
      clear hfd
      go_wp2_with fail
      go_roundw
      case rel=>exact ⟨j+1,by omega,by go_num,by rw[HFS.out];rfl,hbq⟩
      case measure=>simp[intOf];omega
     | false =>
      rw[hfd] at HFS
      clear hfd
      go_wp2_with (go_at_call 31;refine HSM.out.mono ?_;rintro _ w2 ⟨rfl,hb2'⟩)
      have HB2:=Lib.hid (keep_trans hbq hb2')
      go_roundw
      case rel=>exact ⟨j+1,by omega,by go_num,by rw[HFS.out];rfl,HB2.out⟩
      case measure=>simp[intOf];omega
    ·have hji:¬(j:Int)<(n:Int):=by omega
     have e:j=n:=by omega
     subst e
     have HAL:Hid (fndB ls M j=hasLineB ls M):=by unfold Hid;rw[← HLL.out];exact fndB_all
     cases hfd:fndB ls M j with
     | true =>
      rw[hfd] at HAL
      have HU:=Lib.hid (HUPk.out HAL.out.symm)
      clear hfd
      go_wp2_with fail
      go_roundw
      case rel=>exact ⟨k+1,by omega,by go_num,HU.out,hBq⟩
      case measure=>simp[intOf];omega
     | false =>
      rw[hfd] at HAL
      have HN:=Lib.hid (HNOk.out HAL.out.symm)
      clear hfd
      go_wp2_with fail
      go_ret
      exact ⟨ret_bool HN.out.symm,keep_trans fB hBq⟩
  ·have hki:¬(k:Int)<(n:Int):=by omega
   have e:k=n:=by omega
   subst e
   have HY:=Lib.hid (HYES.out hup.out)
   go_wp2_with fail
   go_ret
   exact ⟨ret_bool HY.out.symm,hbw⟩
end
section
open Go Go.RowKit
attribute [local go_sem] over_cell
attribute [local go_sem] Oper.semAt_some
theorem comp_small {cells:Int} {ls:List (List Int)} {sum:Int} {g:List Int} {most:Int} (h:taskErr cells ls sum g=0) (ho:(openL g).length≤16) (h1:1≤most) (h2:most≤256):compE cells ls sum g most=0∧compL cells ls sum g most=(solsL ls sum g []).take most.toNat:=by
 have he:compE cells ls sum g most=0:=by
  unfold compE
  rw[h,small_zero h ho,decide_eq_false (by omega),decide_eq_false (by omega)]
  rfl
 refine ⟨he,?_⟩
 unfold compL
 rw[he,if_neg (by decide)]
theorem shared_c (a:Option Addr) (n c:Nat) (ls:List (List Int)) (cells sum:Int) (a':Option Addr) (n' c':Nat) (g:List Int) (ap:Option Addr) (np cap:Nat) (p:List Int) (cp:Bool) (w:World) (h:RC w a n ls) (hcap:n≤c) (h':IC w a' n' g) (hcap':n'≤c') (hp:IC w ap np p) :
  Calls Tryz.prog 4 #[.agg #[.int .i64 cells,.slice a n c,.int .i64 sum,.slice a' n' c'],.agg #[.slice ap np cap,.bool cp]] w fun e w'=>e = .returned (.bool true)∧Below w.heap.size w w':=by
 obtain ⟨i0,hi,hz0,hz1,hz2⟩:=info_parts infoInt
 have HA:=Lib.hid kfilled_c
 have HFW:=Lib.hid (fun w1 (hb:Below w.heap.size w w1)=>few6_c a n c ls cells sum a' n' c' g 16 6 w1 (h.mono hb) hcap (h'.mono hb) hcap')
 have HAL:=Lib.hid (fun w1 (hb:Below w.heap.size w w1)=>alone_c ap np cap p cp w1 (hp.mono hb))
 have HFG:Hid (few6B 16 6 cells sum ls g=true→GoodTask cells ls sum g∧(openL g).length≤6∧sysErr cells ls=0∧taskErr cells ls sum g=0∧cells=(n':Int)∧n'≤256):=fun e=>by
  have h1:=few_good e
  have h4:=h1.1.len
  have h5:=h'.len
  have h6:=h1.1.cells2
  exact ⟨h1.1,by have:=h1.2;omega,few_sys e,taskErr_good h1.1 (few_sys e),by omega,by omega⟩
 have HRC:=Lib.hid h
 have HIC:=Lib.hid h'
 have HP:=Lib.hid hp
 have HGL:=Lib.hid h'.len
 have HPL:=Lib.hid hp.len
 clear h h' hp
 generalize few6B 16 6 cells sum ls g=fb at HFW HFG
 go_enter Tryz.func4,Tryz.ntmps4
 go_upto_region 2 with fail
 have fsz:(((w.alloc (.cells #[.int .i64 cells,.slice a n c,.int .i64 sum,.slice a' n' c'] 27)).alloc (.cells #[.slice ap np cap,.bool cp] 29)).alloc (.cells #[.int .i64 cells,.slice a n c,.int .i64 sum,.slice a' n' c'] 30)).heap.size=w.heap.size+3:=by simp only[World.size_alloc] <;> omega
 have fB:Below w.heap.size w (((w.alloc (.cells #[.int .i64 cells,.slice a n c,.int .i64 sum,.slice a' n' c'] 27)).alloc (.cells #[.slice ap np cap,.bool cp] 29)).alloc (.cells #[.int .i64 cells,.slice a n c,.int .i64 sum,.slice a' n' c'] 30)):=(((Below.refl _ _).alloc (Nat.le_refl _) _).alloc (by simp only[World.size_alloc];omega) _).alloc (by simp only[World.size_alloc];omega) _
 have fq0:(((w.alloc (.cells #[.int .i64 cells,.slice a n c,.int .i64 sum,.slice a' n' c'] 27)).alloc (.cells #[.slice ap np cap,.bool cp] 29)).alloc (.cells #[.int .i64 cells,.slice a n c,.int .i64 sum,.slice a' n' c'] 30)).heap[w.heap.size]?=some (.cells #[.int .i64 cells,.slice a n c,.int .i64 sum,.slice a' n' c'] 27 (0,0)):=by have h:=World.alloc_heap_new w (.cells #[.int .i64 cells,.slice a n c,.int .i64 sum,.slice a' n' c'] 27);exact (Below.heap_alloc _ _ _ (by simp only[World.size_alloc];omega)).trans ((Below.heap_alloc _ _ _ (by simp only[World.size_alloc];omega)).trans (h))
 have fq1:(((w.alloc (.cells #[.int .i64 cells,.slice a n c,.int .i64 sum,.slice a' n' c'] 27)).alloc (.cells #[.slice ap np cap,.bool cp] 29)).alloc (.cells #[.int .i64 cells,.slice a n c,.int .i64 sum,.slice a' n' c'] 30)).heap[w.heap.size+1]?=some (.cells #[.slice ap np cap,.bool cp] 29 (0,0)):=by have h:=World.alloc_heap_new (w.alloc (.cells #[.int .i64 cells,.slice a n c,.int .i64 sum,.slice a' n' c'] 27)) (.cells #[.slice ap np cap,.bool cp] 29);simp only[World.size_alloc] at h;exact (Below.heap_alloc _ _ _ (by simp only[World.size_alloc];omega)).trans (h)
 have fq2:(((w.alloc (.cells #[.int .i64 cells,.slice a n c,.int .i64 sum,.slice a' n' c'] 27)).alloc (.cells #[.slice ap np cap,.bool cp] 29)).alloc (.cells #[.int .i64 cells,.slice a n c,.int .i64 sum,.slice a' n' c'] 30)).heap[w.heap.size+1+1]?=some (.cells #[.int .i64 cells,.slice a n c,.int .i64 sum,.slice a' n' c'] 30 (0,0)):=by have h:=World.alloc_heap_new ((w.alloc (.cells #[.int .i64 cells,.slice a n c,.int .i64 sum,.slice a' n' c'] 27)).alloc (.cells #[.slice ap np cap,.bool cp] 29)) (.cells #[.int .i64 cells,.slice a n c,.int .i64 sum,.slice a' n' c'] 30);simp only[World.size_alloc] at h;exact h
 generalize (((w.alloc (.cells #[.int .i64 cells,.slice a n c,.int .i64 sum,.slice a' n' c'] 27)).alloc (.cells #[.slice ap np cap,.bool cp] 29)).alloc (.cells #[.int .i64 cells,.slice a n c,.int .i64 sum,.slice a' n' c'] 30))=W0 at fsz fB fq0 fq1 fq2 ⊢
 have HY:=Lib.hid (fun W (hb:Below W0.heap.size W0 W)=>l4 (keepq hb fq0))
 have HX:=Lib.hid (fun W (hb:Below W0.heap.size W0 W)=>l4 (keepq hb fq2))
 have HS:=Lib.hid (fun W (hb:Below W0.heap.size W0 W)=>(And.intro (q_cell (keepq hb fq1) 0) (And.intro (q_cell (keepq hb fq1) 1) (q_lt (keepq hb fq1))):W.cell? ⟨w.heap.size+1,0,none⟩=some (.slice ap np cap)∧W.cell? ⟨w.heap.size+1,1,none⟩=some (.bool cp)∧w.heap.size+1<W.heap.size))
 have hcur:Below W0.heap.size W0 W0:=Below.refl _ _
 obtain ⟨y0,y1,y2,y3,yl⟩:=HY.out _ hcur
 obtain ⟨x0,x1,x2,x3,xl⟩:=HX.out _ hcur
 obtain ⟨s0,s1,sl⟩:=HS.out _ hcur
 clear fq0 fq1 fq2 fsz
 cases fb with
 | false =>
  go_wp2_with (first|(go_at_call 9;refine (HFW.out _ (keep_trans fB hcur)).mono ?_;rintro _ w1 ⟨rfl,hb1⟩;replace hcur:=keep_trans hcur hb1;clear y0 y1 y2 y3 yl;obtain ⟨y0,y1,y2,y3,yl⟩:=HY.out _ hcur;clear x0 x1 x2 x3 xl;obtain ⟨x0,x1,x2,x3,xl⟩:=HX.out _ hcur;clear s0 s1 sl;obtain ⟨s0,s1,sl⟩:=HS.out _ hcur)|(go_at_call 22;refine (HA.out _).mono ?_;rintro _ w1 ⟨rfl,hb1⟩;replace hcur:=keep_trans hcur hb1))
  go_ret
  exact ⟨rfl,keep_trans fB hcur⟩
 | true =>
  obtain ⟨G,h5,hsy,hte,hcl,hn256⟩:=HFG.out rfl
  have HG:=Lib.hid G
  have HSY:=Lib.hid hsy
  have HTE:=Lib.hid hte
  have H5:=Lib.hid h5
  have hgp:0<n':=by have:=G.cells1;omega
  subst hcl
  clear HFG G hsy hte
  cases cp with
  | true =>
   go_wp2_with (first|(go_at_call 9;refine (HFW.out _ (keep_trans fB hcur)).mono ?_;rintro _ w1 ⟨rfl,hb1⟩;replace hcur:=keep_trans hcur hb1;clear y0 y1 y2 y3 yl;obtain ⟨y0,y1,y2,y3,yl⟩:=HY.out _ hcur;clear x0 x1 x2 x3 xl;obtain ⟨x0,x1,x2,x3,xl⟩:=HX.out _ hcur;clear s0 s1 sl;obtain ⟨s0,s1,sl⟩:=HS.out _ hcur)|(go_at_call 22;refine (HA.out _).mono ?_;rintro _ w1 ⟨rfl,hb1⟩;replace hcur:=keep_trans hcur hb1))
   go_ret
   exact ⟨rfl,keep_trans fB hcur⟩
  | false =>
   by_cases hnp:np=n'
   ·subst hnp
    have hne:((np:Int) != (np:Int))=false:=by simp
    by_cases hs0:symR (np:Int) p=0
    ·rw[hs0] at HAL
     have HPE:=Lib.hid (symR_ok HPL.out hs0)
     have HKE:=Lib.hid (fun w1 (hb:Below w.heap.size w w1)=>rkeeps_c a n c ls (np:Int) ap np cap p w1 (HRC.out.mono hb) (HP.out.mono hb) (by have:=HG.out.lines;have:=HRC.out.len;omega) (fun l hl=>⟨by have:=(HG.out.lineLen hl).1;omega,HG.out.bnd hl⟩))
     cases hk:keepsB ls p with
     | false =>
      rw[hk] at HKE
      clear hk hs0
      go_wp2_with (first|(go_at_call 9;refine (HFW.out _ (keep_trans fB hcur)).mono ?_;rintro _ w1 ⟨rfl,hb1⟩;replace hcur:=keep_trans hcur hb1;clear y0 y1 y2 y3 yl;obtain ⟨y0,y1,y2,y3,yl⟩:=HY.out _ hcur;clear x0 x1 x2 x3 xl;obtain ⟨x0,x1,x2,x3,xl⟩:=HX.out _ hcur;clear s0 s1 sl;obtain ⟨s0,s1,sl⟩:=HS.out _ hcur)|(go_at_call 10;refine (HAL.out _ (keep_trans fB hcur)).mono ?_;rintro _ w1 ⟨rfl,hb1⟩;replace hcur:=keep_trans hcur hb1;clear y0 y1 y2 y3 yl;obtain ⟨y0,y1,y2,y3,yl⟩:=HY.out _ hcur;clear x0 x1 x2 x3 xl;obtain ⟨x0,x1,x2,x3,xl⟩:=HX.out _ hcur;clear s0 s1 sl;obtain ⟨s0,s1,sl⟩:=HS.out _ hcur)|(go_at_call 21;refine (HKE.out _ (keep_trans fB hcur)).mono ?_;rintro _ w1 ⟨rfl,hb1⟩;replace hcur:=keep_trans hcur hb1;clear y0 y1 y2 y3 yl;obtain ⟨y0,y1,y2,y3,yl⟩:=HY.out _ hcur;clear x0 x1 x2 x3 xl;obtain ⟨x0,x1,x2,x3,xl⟩:=HX.out _ hcur;clear s0 s1 sl;obtain ⟨s0,s1,sl⟩:=HS.out _ hcur)|(go_at_call 22;refine (HA.out _).mono ?_;rintro _ w1 ⟨rfl,hb1⟩;replace hcur:=keep_trans hcur hb1))
      go_ret
      exact ⟨rfl,keep_trans fB hcur⟩
     | true =>
      have HKB:=Lib.hid hk
      rw[hk] at HKE
      clear hk hs0
      go_upto_region 5 with (first|(go_at_call 9;refine (HFW.out _ (keep_trans fB hcur)).mono ?_;rintro _ w1 ⟨rfl,hb1⟩;replace hcur:=keep_trans hcur hb1;clear y0 y1 y2 y3 yl;obtain ⟨y0,y1,y2,y3,yl⟩:=HY.out _ hcur;clear x0 x1 x2 x3 xl;obtain ⟨x0,x1,x2,x3,xl⟩:=HX.out _ hcur;clear s0 s1 sl;obtain ⟨s0,s1,sl⟩:=HS.out _ hcur)|(go_at_call 10;refine (HAL.out _ (keep_trans fB hcur)).mono ?_;rintro _ w1 ⟨rfl,hb1⟩;replace hcur:=keep_trans hcur hb1;clear y0 y1 y2 y3 yl;obtain ⟨y0,y1,y2,y3,yl⟩:=HY.out _ hcur;clear x0 x1 x2 x3 xl;obtain ⟨x0,x1,x2,x3,xl⟩:=HX.out _ hcur;clear s0 s1 sl;obtain ⟨s0,s1,sl⟩:=HS.out _ hcur)|(go_at_call 21;refine (HKE.out _ (keep_trans fB hcur)).mono ?_;rintro _ w1 ⟨rfl,hb1⟩;replace hcur:=keep_trans hcur hb1;clear y0 y1 y2 y3 yl;obtain ⟨y0,y1,y2,y3,yl⟩:=HY.out _ hcur;clear x0 x1 x2 x3 xl;obtain ⟨x0,x1,x2,x3,xl⟩:=HX.out _ hcur;clear s0 s1 sl;obtain ⟨s0,s1,sl⟩:=HS.out _ hcur))
      have ksz:(w1.alloc (.cells #[.int .i64 (np:Int),.slice a n c,.int .i64 sum,.slice none 0 0] 27)).heap.size=w1.heap.size+1:=by simp only[World.size_alloc]
      have kB:Below w1.heap.size w1 (w1.alloc (.cells #[.int .i64 (np:Int),.slice a n c,.int .i64 sum,.slice none 0 0] 27)):=(Below.refl _ _).alloc (Nat.le_refl _) _
      have kq0:(w1.alloc (.cells #[.int .i64 (np:Int),.slice a n c,.int .i64 sum,.slice none 0 0] 27)).heap[w1.heap.size]?=some (.cells #[.int .i64 (np:Int),.slice a n c,.int .i64 sum,.slice none 0 0] 27 (0,0)):=by have h:=World.alloc_heap_new w1 (.cells #[.int .i64 (np:Int),.slice a n c,.int .i64 sum,.slice none 0 0] 27);exact h
      generalize (w1.alloc (.cells #[.int .i64 (np:Int),.slice a n c,.int .i64 sum,.slice none 0 0] 27))=W3 at ksz kB kq0 ⊢
      have hob:W0.heap.size≤w1.heap.size:=hcur.size
      have h31:w1.heap.size<W3.heap.size:=by omega
      have hc3:=keep_trans hcur kB
      have HC3:=Lib.hid hc3
      have HQ3:=Lib.hid kq0
      clear y0 y1 y2 y3 yl x0 x1 x2 x3 xl s0 s1 sl
      obtain ⟨y0,y1,y2,y3,yl⟩:=HY.out _ hc3
      clear kq0 ksz hcur
      go_wp2_with fail
      clear y0 y1 y2 y3 yl
      go_loopw [7,8,60] (fun _ _ iv wv=>∃(k:Nat) (ov:Value),k≤np∧iv = .int .i64 k∧wv.heap[w1.heap.size]?=some (.cells #[.int .i64 (np:Int),.slice a n c,.int .i64 sum,ov] 27 (0,0))∧wv.ownsRow W3.heap.size 3 1 ov k ((fixTo p g k).map (Value.int .i64))∧Below W0.heap.size W0 wv∧W3.heap.size≤wv.heap.size) (fun _ _ iv _=>np - (intOf iv).toNat)
      case atStart=>exact ⟨0,.slice none 0 0,by omega,rfl,HQ3.out,World.ownsRow_nil _ _ _ _,HC3.out,Nat.le_refl _⟩
      case round =>
       obtain ⟨k,ov,hk,rfl,hq,hown,hbr,hz3r⟩:=hrel
       obtain ⟨ao,co,e9⟩:=owns_shape hown
       subst e9
       have HQR:=Lib.hid hq
       have HOW:=Lib.hid hown
       have hbw:=keep_trans fB hbr
       have hzr:=hbr.size
       clear hq hown
       by_cases hlt:k<np
       ·have hki:(k:Int)<(np:Int):=by omega
        obtain ⟨s0,s1,sl⟩:=HS.out _ hbr
        have o3:=q_cell HQR.out 3
        have ol:=q_lt HQR.out
        obtain ⟨b5,o5,rfl,hb5,hc5⟩:=(HIC.out.mono hbw).2 k hlt
        obtain ⟨b6,o6,rfl,hb6,hc6⟩:=(HP.out.mono hbw).2 k hlt
        have HFX:=Lib.hid (fixTo_succ p g k)
        by_cases hpk:p[k]?.getD 0=(k:Int)
        ·have hbp:((k:Int) != (k:Int))=false:=by simp
         rw[hpk] at hc6
         generalize hgk:g[k]?.getD 0=x at hc5
         go_wp2_with (at_builtin;refine wpList_append_own _ rfl _ _ 25 rfl W3.heap.size 3 i0 (.int .i64 0) 1 8 Tryz.underlying25 hi hz0 hz1 hz2 rfl (by decide) _ _ _ rfl (HOW.out.alloc _) ⟨wr.heap.size,0,none⟩ 1 1 [.int .i64 x] rfl rfl (cell_one_new _ _ _) (by simp[Value.oneCell']) (by unfold maxLen;omega) (by omega) (by simp;omega) ?_;intro v5 w5 hown5 hgrow _;have hs5:=grow_stays hgrow;have q5:=stays_q hs5 HQR.out (fun e=>by have:=owns_ge HOW.out e;omega);have b5:Below W0.heap.size W0 w5:=hbr.trans (hs5.below hzr (fun q e=>by have:=owns_ge HOW.out e;omega));obtain ⟨a5,c5,rfl⟩:=owns_shape hown5;have z3:=q_cell q5 3;have zf:=q_free q5 3;have zl:=q_lt q5)
         have q6:=q_set (i:=3) q5 (.slice a5 (k+1) c5)
         have o6:(w5.setCell ⟨w1.heap.size,3,none⟩ (.slice a5 (k+1) c5)).ownsRow W3.heap.size 3 1 (.slice a5 (k+1) c5) (k+1) ((fixTo p g (k+1)).map (Value.int .i64)):=by
          rw[HFX.out,List.map_append]
          have e9:[if p[k]?.getD 0=(k:Int) then g[k]?.getD 0 else 0].map (Value.int .i64)=[.int .i64 x]:=by rw[if_pos hpk,hgk];rfl
          rw[e9]
          exact owns_keep hown5 (fun i e _=>Below.heap_setCell _ _ _ _ (by have:=owns_ge hown5 e;show i≠w1.heap.size;omega))
         have HQ6:=Lib.hid q6
         have HO6:=Lib.hid o6
         have HB6:Hid (Below W0.heap.size W0 (w5.setCell ⟨w1.heap.size,3,none⟩ (.slice a5 (k+1) c5))):=b5.setCell (p:=⟨w1.heap.size,3,none⟩) hob _
         have HZ6:Hid (W3.heap.size≤(w5.setCell ⟨w1.heap.size,3,none⟩ (.slice a5 (k+1) c5)).heap.size):=Nat.le_trans (Nat.le_trans hz3r hs5.size) (Stays.setCell (S:=fun q=>q=w1.heap.size) w5 (p:=⟨w1.heap.size,3,none⟩) rfl _).size
         clear q6 o6 hown5 hgrow hs5
         go_roundw
         case rel=>exact ⟨k+1,_,by omega,by go_num,HQ6.out,HO6.out,HB6.out,HZ6.out⟩
         case measure=>simp[intOf];omega
        ·have hbp:(p[k]?.getD 0 != (k:Int))=true:=by simpa using hpk
         generalize hpq:p[k]?.getD 0=pk at hc6 hbp
         go_wp2_with (at_builtin;refine wpList_append_own _ rfl _ _ 25 rfl W3.heap.size 3 i0 (.int .i64 0) 1 8 Tryz.underlying25 hi hz0 hz1 hz2 rfl (by decide) _ _ _ rfl (HOW.out.alloc _) ⟨wr.heap.size,0,none⟩ 1 1 [.int .i64 0] rfl rfl (cell_one_new _ _ _) (by simp[Value.oneCell']) (by unfold maxLen;omega) (by omega) (by simp;omega) ?_;intro v5 w5 hown5 hgrow _;have hs5:=grow_stays hgrow;have q5:=stays_q hs5 HQR.out (fun e=>by have:=owns_ge HOW.out e;omega);have b5:Below W0.heap.size W0 w5:=hbr.trans (hs5.below hzr (fun q e=>by have:=owns_ge HOW.out e;omega));obtain ⟨a5,c5,rfl⟩:=owns_shape hown5;have z3:=q_cell q5 3;have zf:=q_free q5 3;have zl:=q_lt q5)
         have q6:=q_set (i:=3) q5 (.slice a5 (k+1) c5)
         have o6:(w5.setCell ⟨w1.heap.size,3,none⟩ (.slice a5 (k+1) c5)).ownsRow W3.heap.size 3 1 (.slice a5 (k+1) c5) (k+1) ((fixTo p g (k+1)).map (Value.int .i64)):=by
          rw[HFX.out,List.map_append]
          have e9:[if p[k]?.getD 0=(k:Int) then g[k]?.getD 0 else 0].map (Value.int .i64)=[.int .i64 0]:=by rw[if_neg hpk];rfl
          rw[e9]
          exact owns_keep hown5 (fun i e _=>Below.heap_setCell _ _ _ _ (by have:=owns_ge hown5 e;show i≠w1.heap.size;omega))
         have HQ6:=Lib.hid q6
         have HO6:=Lib.hid o6
         have HB6:Hid (Below W0.heap.size W0 (w5.setCell ⟨w1.heap.size,3,none⟩ (.slice a5 (k+1) c5))):=b5.setCell (p:=⟨w1.heap.size,3,none⟩) hob _
         have HZ6:Hid (W3.heap.size≤(w5.setCell ⟨w1.heap.size,3,none⟩ (.slice a5 (k+1) c5)).heap.size):=Nat.le_trans (Nat.le_trans hz3r hs5.size) (Stays.setCell (S:=fun q=>q=w1.heap.size) w5 (p:=⟨w1.heap.size,3,none⟩) rfl _).size
         clear q6 o6 hown5 hgrow hs5
         go_roundw
         case rel=>exact ⟨k+1,_,by omega,by go_num,HQ6.out,HO6.out,HB6.out,HZ6.out⟩
         case measure=>simp[intOf];omega
       ·have e:k=np:=by omega
        subst k
        obtain ⟨gb,cur,rfl,hgb,_⟩:=owns_blk HOW.out hgp
        have hfx:fixTo p g np=fixL p g:=by unfold fixL;rw[HGL.out]
        obtain ⟨F,hF⟩:∃F,F=fixL p g:=⟨_,rfl⟩
        have hFl:F.length=np:=by rw[hF];unfold fixL;rw[fixTo_len,HGL.out]
        have hIF:IC wr (some ⟨gb,0,none⟩) np F:=by
         have h1:wr.ownsRow W3.heap.size 3 1 (.slice (some ⟨gb,0,none⟩) F.length co) F.length (F.map (Value.int .i64)):=by rw[hFl,hF,← hfx];exact HOW.out
         have h2:=(IC.of_owns h1 (by omega)).1
         rw[hFl] at h2
         exact h2
        have hcoo:np≤co:=by
         rcases HOW.out.2 with ⟨e,_⟩|⟨g9,cap9,cur9,e9,_,_,e5,_⟩
         ·cases e
         ·simp only[Value.slice.injEq] at e9;omega
        have hpl2:p.length=g.length:=by rw[HPL.out,HGL.out]
        have HG':Hid (GoodTask (np:Int) ls sum F):=by unfold Hid;rw[hF];exact own_good HG.out p
        have HTE':Hid (taskErr (np:Int) ls sum F=0):=taskErr_good HG'.out HSY.out
        have HSOL:Hid (∀f,SolF ls sum F f→SolF ls sum F (movF false p f)):=fun f hf=>by
         rw[hF] at hf ⊢
         exact own_sol HG.out HSY.out HPE.out.2.1 hpl2 HKB.out hf
        have HFOR:Hid (∀L,solsL ls sum F []=L→0<L.length→∀i,i<np→(forL L)[i]?.getD 0≠0→(forL L)[(p[i]?.getD 0).toNat]?.getD 0=(forL L)[i]?.getD 0):=fun L hL h0 i hi h=>by
         rw[hF] at hL
         exact own_forced HG.out HSY.out HPE.out.2.1 hpl2 HKB.out hL h0 (by rw[HGL.out];exact hi) h
        have HIF:=Lib.hid hIF
        have HFL:=Lib.hid hFl
        have HBR:=Lib.hid hbr
        have fB5:=hbw
        have HS3:=Lib.hid (fun W (hb:Below wr.heap.size wr W)=>HS.out W (keep_trans HBR.out hb))
        have HV:=Lib.hid (fun W (hb:Below wr.heap.size wr W)=>l4 (keepq hb HQR.out))
        have HPN:Hid (∀k,k<np→0≤p[k]?.getD 0∧p[k]?.getD 0<(np:Int)):=fun k hk=>by have:=HPE.out.2.1.num k (by rw[HPL.out];exact hk);rw[HPL.out] at this;exact this
        clear hF hfx hFl hIF hpl2 hbr hbw HOW
        have hcur:Below wr.heap.size wr wr:=Below.refl _ _
        obtain ⟨s0,s1,sl⟩:=HS3.out _ hcur
        obtain ⟨v0,v1,v2,v3,vl⟩:=HV.out _ hcur
        have HOP:Hid (∀W,Below wr.heap.size wr W→Calls Tryz.prog 23 #[.agg #[.int .i64 (np:Int),.slice a n c,.int .i64 sum,.slice (some ⟨gb,0,none⟩) np co]] W fun e w'=>(∃ao co,e = .returned (.slice ao (openL F).length co))∧Below W.heap.size W w'):=fun W hb=>by
         refine (ropen_c (.slice a n c) (np:Int) sum (some ⟨gb,0,none⟩) np co F W (HIF.out.mono hb)).mono ?_
         rintro _ w' ⟨v,rfl,hown,hb'⟩
         obtain ⟨ao,co,rfl⟩:=owns_shape hown
         exact ⟨⟨ao,co,rfl⟩,hb'⟩
        by_cases h7:((openL F).length:Int)>7
        ·go_wp2_with (first|(go_at_call 23;refine (HOP.out _ hcur).mono ?_;rintro _ w1 ⟨⟨ao,co2,rfl⟩,hb1⟩;replace hcur:=keep_trans hcur hb1;clear s0 s1 sl;obtain ⟨s0,s1,sl⟩:=HS3.out _ hcur;clear v0 v1 v2 v3 vl;obtain ⟨v0,v1,v2,v3,vl⟩:=HV.out _ hcur)|(go_at_call 22;refine (HA.out _).mono ?_;rintro _ w1 ⟨rfl,hb1⟩;replace hcur:=keep_trans hcur hb1))
         go_ret
         exact ⟨rfl,keep_trans fB5 hcur⟩
        ·have ho7:(openL F).length≤7:=by omega
         obtain ⟨L,hL⟩:∃L,solsL ls sum F []=L:=⟨_,rfl⟩
         obtain ⟨L30,hL30⟩:∃L30,L30=L.take 30:=⟨_,rfl⟩
         have hl30:L30.length≤30:=by rw[hL30,List.length_take];omega
         have hl0:L30.length=0↔L.length=0:=by rw[hL30,List.length_take];omega
         have HCM:Hid (∀W,Below wr.heap.size wr W→Calls Tryz.prog 15 #[.agg #[.int .i64 (np:Int),.slice a n c,.int .i64 sum,.slice (some ⟨gb,0,none⟩) np co],.int .i64 30] W fun e w'=>∃ar nr cr,e = .returned (.tuple #[.slice ar nr cr,.int .i64 0])∧RC w' ar nr L30∧nr≤cr∧Below W.heap.size W w'):=fun W hb=>by
          have:=comp_c a n c ls (np:Int) sum (some ⟨gb,0,none⟩) np co F 30 W (HRC.out.mono (keep_trans fB5 hb)) hcap (HIF.out.mono hb) hcoo
          have h9:=comp_small (most:=30) HTE'.out (by omega) (by decide) (by decide)
          rw[h9.1,h9.2,show (30:Int).toNat=30 from rfl,hL,← hL30] at this
          exact this
         have HL:Hid (∀k,k<L30.length→SolF ls sum F (L30[k]?.getD [])):=fun k hk=>by
          have h1:L30[k]?.getD []∈L30:=by rw[List.getElem?_eq_getElem hk];exact List.getElem_mem hk
          rw[hL30] at h1 ⊢
          exact (mem_sols HG'.out).1 (by rw[hL];exact List.mem_of_mem_take h1)
         have HFC:Hid (0<L.length→∀W,Below wr.heap.size wr W→Calls Tryz.prog 25 #[.agg #[.int .i64 (np:Int),.slice a n c,.int .i64 sum,.slice (some ⟨gb,0,none⟩) np co]] W fun e w'=>(∃ar nr cr,e = .returned (.tuple #[.slice ar nr cr,.int .i64 0])∧IC w' ar nr (forL L)∧nr≤cr)∧Below W.heap.size W w'):=fun h0 W hb=>by
          have:=forced_c a n c ls (np:Int) sum (some ⟨gb,0,none⟩) np co F W (HRC.out.mono (keep_trans fB5 hb)) hcap (HIF.out.mono hb) hcoo
          have hs:=small_zero HTE'.out (by omega)
          unfold forE forV at this
          rw[hs,hL] at this
          simp only[show ((0:Int) != 0)=false from rfl,Bool.false_eq_true,if_false,if_neg (show ¬L.length=0 by omega)] at this
          exact this
         have HFL2:Hid (0<L.length→(forL L).length=np):=fun h0=>by
          unfold forL
          rw[forTo_len]
          have h1:L[0]?.getD []∈L:=by rw[List.getElem?_eq_getElem h0];exact List.getElem_mem h0
          have h2:=(mem_sols HG'.out).1 (by rw[hL];exact h1)
          rw[h2.len,HFL.out]
         have HFR:=Lib.hid (fun h0=>HFOR.out L hL h0)
         clear hL hL30 HFOR
         generalize forL L=R at HFC HFL2 HFR
         go_upto_region 15 with (first|(go_at_call 23;refine (HOP.out _ hcur).mono ?_;rintro _ w1 ⟨⟨ao,co2,rfl⟩,hb1⟩;replace hcur:=keep_trans hcur hb1;clear s0 s1 sl;obtain ⟨s0,s1,sl⟩:=HS3.out _ hcur;clear v0 v1 v2 v3 vl;obtain ⟨v0,v1,v2,v3,vl⟩:=HV.out _ hcur)|(go_at_call 15;refine (HCM.out _ hcur).mono ?_;rintro _ w1 ⟨ar,nr,cr,rfl,hRCL,hcrL,hb1⟩;replace hcur:=keep_trans hcur hb1;clear s0 s1 sl;obtain ⟨s0,s1,sl⟩:=HS3.out _ hcur;clear v0 v1 v2 v3 vl;obtain ⟨v0,v1,v2,v3,vl⟩:=HV.out _ hcur))
         have hnr:=hRCL.len
         have HRL:=Lib.hid hRCL
         have HC1:=Lib.hid hcur
         have hd30:decide ((30:Int)<(nr:Int))=false:=decide_eq_false (by omega)
         clear hRCL hcur s0 s1 sl v0 v1 v2 v3 vl
         go_wp2_with fail
         go_loopw [12,13,14,15,16,98] (fun _ _ _ _ _ iv wv=>∃k:Nat,k≤nr∧iv = .int .i64 k∧Below w1.heap.size w1 wv) (fun _ _ _ _ _ iv _=>nr - (intOf iv).toNat)
         case atStart=>exact ⟨0,by omega,rfl,Below.refl _ _⟩
         case round =>
          obtain ⟨k,hk,rfl,hb2⟩:=hrel
          have hcur:=keep_trans HC1.out hb2
          obtain ⟨s0,s1,sl⟩:=HS3.out _ hcur
          obtain ⟨v0,v1,v2,v3,vl⟩:=HV.out _ hcur
          by_cases hlt2:k<nr
          ·have hki:(k:Int)<(nr:Int):=by omega
           obtain ⟨b,off,af,nf,cf,rfl,hb,hc,hif,hcf⟩:=(HRL.out.mono hb2).2 k hlt2
           have hsf:=HL.out k (by omega)
           generalize L30[k]?.getD []=f at hif hsf
           have hnf:nf=np:=by rw[← hif.len,hsf.len,HFL.out]
           subst nf
           have hsg:=HSOL.out f hsf
           have HAP:=Lib.hid (gapply_c ap np cap p false af cf f wr (HP.out.mono (keep_trans fB5 hcur)) HPE.out.2.2 hif (fun i hi=>by have h1:=hsf.num i (by rw[hif.len];exact hi);rw[HFL.out] at h1;exact h1))
           have HSO:Hid (∀W ag cg,Below wr.heap.size wr W→IC W ag np (movF false p f)→Calls Tryz.prog 16 #[.agg #[.int .i64 (np:Int),.slice a n c,.int .i64 sum,.slice (some ⟨gb,0,none⟩) np co],.slice ag np cg] W fun e w'=>e = .returned (.tuple #[.bool true,.int .i64 0])∧Below W.heap.size W w'):=fun W ag cg hb hi=>by
            have:=fsol_c a n c ls (np:Int) sum (some ⟨gb,0,none⟩) np co F ag np cg (movF false p f) W (HRC.out.mono (keep_trans fB5 (keep_trans hcur hb))) hcap (HIF.out.mono (keep_trans hcur hb)) hcoo hi
            obtain ⟨h2,h3,_⟩:=solF_solB HG'.out hsg
            have h4:solE (np:Int) ls sum F (movF false p f)=0:=by unfold solE;rw[if_neg (by simpa using HTE'.out),h2]
            unfold isV at this
            rw[if_neg (by simpa using h4),h3,h4] at this
            exact this
           clear hsf hsg hif
           generalize movF false p f=r at HAP HSO
           go_wp2_with fail
           refine HAP.out.mono ?_
           rintro _ w4 ⟨ag,rfl,hig,hb4⟩
           have HSX:=Lib.hid (HSO.out w4 ag np hb4 hig)
           have hcur4:=keep_trans hcur hb4
           clear s0 s1 sl v0 v1 v2 v3 vl hig
           obtain ⟨v0,v1,v2,v3,vl⟩:=HV.out _ hcur4
           go_wp2_with fail
           refine HSX.out.mono ?_
           rintro _ w5 ⟨rfl,hb5⟩
           clear v0 v1 v2 v3 vl
           have HB5:=Lib.hid (keep_trans hb2 (keep_trans hb4 hb5))
           go_wp2_with fail
           go_roundw
           case rel=>exact ⟨k+1,by omega,by go_num,HB5.out⟩
           case measure=>simp[intOf];omega
          ·have e:k=nr:=by omega
           subst k
           by_cases hm0:nr=0
           ·have hmz:((nr:Int)==0)=true:=by simp[hm0]
            go_wp2_with (first|(go_at_call 22;refine (HA.out _).mono ?_;rintro _ w1 ⟨rfl,hb1⟩;replace hcur:=keep_trans hcur hb1))
            go_ret
            exact ⟨rfl,keep_trans fB5 hcur⟩
           ·have hmz:((nr:Int)==0)=false:=by simpa using hm0
            have hLp:0<L.length:=by omega
            have HFX:=Lib.hid (HFC.out hLp)
            have hRl:=HFL2.out hLp
            have HRR:=Lib.hid (HFR.out hLp)
            clear HFC HFL2 HFR
            go_wp2_with fail
            refine (HFX.out _ hcur).mono ?_
            rintro _ w4 ⟨⟨aR,nR,cR,rfl,hiR,_⟩,hb4⟩
            have hnR:nR=np:=by rw[← hiR.len,hRl]
            subst nR
            have hnn:((np:Int) != (np:Int))=false:=by simp
            replace hcur:=keep_trans hcur hb4
            clear s0 s1 sl
            obtain ⟨s0,s1,sl⟩:=HS3.out _ hcur
            clear v0 v1 v2 v3 vl
            obtain ⟨v0,v1,v2,v3,vl⟩:=HV.out _ hcur
            have HIR:=Lib.hid hiR
            have HCR:=Lib.hid hcur
            clear hiR
            go_wp2_with fail
            go_loop [19,20,146] (fun _ _ iv=>∃i:Nat,i≤np∧iv = .int .i64 i) (fun _ _ iv=>np - (intOf iv).toNat)
            case atStart=>exact ⟨0,by omega,rfl⟩
            case round =>
             obtain ⟨i,hi,rfl⟩:=hrel
             by_cases hlt3:i<np
             ·have hii:(i:Int)<(np:Int):=by omega
              obtain ⟨b7,o7,rfl,hb7,hc7⟩:=HIR.out.2 i hlt3
              obtain ⟨b8,o8,rfl,hb8,hc8⟩:=(HP.out.mono (keep_trans fB5 HCR.out)).2 i hlt3
              have hpk:=HPN.out i hlt3
              have HQI:=Lib.hid (HRR.out i hlt3)
              obtain ⟨t,ht⟩:=Int.eq_ofNat_of_zero_le hpk.1
              rw[ht] at hpk hc8 HQI
              clear ht
              rw[Int.toNat_natCast] at HQI
              have htn:t<np:=by omega
              have hti:(t:Int)<(np:Int):=by omega
              obtain ⟨b9,o9,e9,hb9,hc9⟩:=HIR.out.2 t htn
              simp only[Option.some.injEq,Addr.mk.injEq,and_true] at e9
              obtain ⟨rfl,rfl⟩:=e9
              by_cases hx0:0<R[i]?.getD 0
              ·have hd0:decide (0<R[i]?.getD 0)=true:=decide_eq_true hx0
               have HEQ:=HQI.out (by omega)
               rw[HEQ] at hc9
               have hxx:(R[i]?.getD 0 != R[i]?.getD 0)=false:=by simp
               generalize R[i]?.getD 0=x at hc7 hc9 hd0 hxx
               clear HEQ HQI hx0
               go_wp2_with fail
               go_round
               case rel=>exact ⟨i+1,by omega,by go_num⟩
               case measure=>simp[intOf];omega
              ·have hd0:decide (0<R[i]?.getD 0)=false:=decide_eq_false hx0
               generalize R[i]?.getD 0=x at hc7 hd0
               clear HQI hx0
               go_wp2_with fail
               go_round
               case rel=>exact ⟨i+1,by omega,by go_num⟩
               case measure=>simp[intOf];omega
             ·have hii:¬(i:Int)<(np:Int):=by omega
              go_wp2_with (first|(go_at_call 22;refine (HA.out _).mono ?_;rintro _ w9 ⟨rfl,hb9⟩))
              go_ret
              exact ⟨rfl,keep_trans fB5 (keep_trans HCR.out hb9)⟩
    ·have hsb:(symR (np:Int) p != 0)=true:=by simpa using hs0
     generalize symR (np:Int) p=sr at HAL hsb
     clear hs0
     go_wp2_with (first|(go_at_call 9;refine (HFW.out _ (keep_trans fB hcur)).mono ?_;rintro _ w1 ⟨rfl,hb1⟩;replace hcur:=keep_trans hcur hb1;clear y0 y1 y2 y3 yl;obtain ⟨y0,y1,y2,y3,yl⟩:=HY.out _ hcur;clear x0 x1 x2 x3 xl;obtain ⟨x0,x1,x2,x3,xl⟩:=HX.out _ hcur;clear s0 s1 sl;obtain ⟨s0,s1,sl⟩:=HS.out _ hcur)|(go_at_call 10;refine (HAL.out _ (keep_trans fB hcur)).mono ?_;rintro _ w1 ⟨rfl,hb1⟩;replace hcur:=keep_trans hcur hb1;clear y0 y1 y2 y3 yl;obtain ⟨y0,y1,y2,y3,yl⟩:=HY.out _ hcur;clear x0 x1 x2 x3 xl;obtain ⟨x0,x1,x2,x3,xl⟩:=HX.out _ hcur;clear s0 s1 sl;obtain ⟨s0,s1,sl⟩:=HS.out _ hcur)|(go_at_call 22;refine (HA.out _).mono ?_;rintro _ w1 ⟨rfl,hb1⟩;replace hcur:=keep_trans hcur hb1))
     go_ret
     exact ⟨rfl,keep_trans fB hcur⟩
   ·have hne:((np:Int) != (n':Int))=true:=by simp;omega
    go_wp2_with (first|(go_at_call 9;refine (HFW.out _ (keep_trans fB hcur)).mono ?_;rintro _ w1 ⟨rfl,hb1⟩;replace hcur:=keep_trans hcur hb1;clear y0 y1 y2 y3 yl;obtain ⟨y0,y1,y2,y3,yl⟩:=HY.out _ hcur;clear x0 x1 x2 x3 xl;obtain ⟨x0,x1,x2,x3,xl⟩:=HX.out _ hcur;clear s0 s1 sl;obtain ⟨s0,s1,sl⟩:=HS.out _ hcur)|(go_at_call 22;refine (HA.out _).mono ?_;rintro _ w1 ⟨rfl,hb1⟩;replace hcur:=keep_trans hcur hb1))
    go_ret
    exact ⟨rfl,keep_trans fB hcur⟩
end
end Go.Proofs.YtaadpihbjhachaaGreat
