/- Texts Q5 to Q5 of this proof, in one file. -/
import Derived.Test.YtcblpobiefmjmaaGreatW20
import Derived.Test.YtcblpobiefmjmaaGreatW32
import Derived.Test.YtcblpobiefmjmaaGreatW36
import Derived.Test.YtcblpobiefmjmaaGreatW38
namespace Go.Proofs.YtcblpobiefmjmaaGreat
set_option maxRecDepth 100000
set_option maxHeartbeats 16000000
section
open Go Go.RowKit
attribute [local go_sem] over_cell
attribute [local go_sem] Oper.semAt_some
theorem funiq_c (a:Option Addr) (n c:Nat) (ls:List (List Int)) (cells sum:Int) (a':Option Addr) (n' c':Nat) (g:List Int) (w:World) (h:RC w a n ls) (hcap:n≤c) (h':IC w a' n' g) (hcap':n'≤c') :
  Calls Tryz.prog 11 #[.agg #[.int .i64 cells,.slice a n c,.int .i64 sum,.slice a' n' c']] w fun e w'=>e = .returned (.bool true)∧Below w.heap.size w w':=by
 have HA:=Lib.hid awake_c
 have HSH:=Lib.hid (fun w1 (hb:Below w.heap.size w w1)=>short6_c a n c ls cells sum a' n' c' g 40 w1 (h.mono hb) (h'.mono hb))
 have HTK:=Lib.hid (fun w1 (hb:Below w.heap.size w w1)=>rtask_c a n c ls cells sum a' n' c' g w1 (h.mono hb) hcap (h'.mono hb) hcap')
 have HOP:=Lib.hid (fun w1 (hb:Below w.heap.size w w1)=>ropen_c (.slice a n c) cells sum a' n' c' g w1 (h'.mono hb))
 have HU:=Lib.hid (fun w1 (hb:Below w.heap.size w w1)=>unique_c a n c ls cells sum a' n' c' g w1 (h.mono hb) hcap (h'.mono hb) hcap')
 have HW:=Lib.hid (fun w1 (hb:Below w.heap.size w w1)=>wit_c a n c ls cells sum a' n' c' g w1 (h.mono hb) hcap (h'.mono hb) hcap')
 have HF:=Lib.hid (fun w1 (hb:Below w.heap.size w w1)=>forced_c a n c ls cells sum a' n' c' g w1 (h.mono hb) hcap (h'.mono hb) hcap')
 have HSO:=Lib.hid (fun (G:GoodTask cells ls sum g) (h7:(openL g).length≤7) w1 (hb:Below w.heap.size w w1)=>rsols_c G a n c a' n' c' 6000 w1 (h.mono hb) (h'.mono hb) h7 (by decide) (by decide))
 have HGT:Hid (taskErr cells ls sum g=0→GoodTask cells ls sum g):=goodTask
 have HGL:Hid (taskErr cells ls sum g=0→n'≤256∧0<n'):=fun e=>by have:=(goodTask e).len;have:=(goodTask e).cells2;have:=(goodTask e).cells1;have:=h'.len;omega
 have hUE:Hid (uniqE cells ls sum g=if (smallErr cells ls sum g != 0)=true then smallErr cells ls sum g else if ((solsL ls sum g []).take 2).length=0 then 21 else if ((solsL ls sum g []).take 2).length=1 then 0 else 22):=rfl
 have hUL:Hid (uniqL cells ls sum g=if (smallErr cells ls sum g != 0)=true then [] else if ((solsL ls sum g []).take 2).length=1 then ((solsL ls sum g []).take 2)[0]?.getD [] else []):=rfl
 have hWE:Hid (witE cells ls sum g=if (smallErr cells ls sum g != 0)=true then smallErr cells ls sum g else if ((solsL ls sum g []).take 2).length<2 then 21 else 0):=rfl
 have hW0:Hid (witL cells ls sum g 0=if (smallErr cells ls sum g != 0)=true then [] else if ((solsL ls sum g []).take 2).length<2 then [] else ((solsL ls sum g []).take 2)[0]?.getD []):=rfl
 have hW1:Hid (witL cells ls sum g 1=if (smallErr cells ls sum g != 0)=true then [] else if ((solsL ls sum g []).take 2).length<2 then [] else ((solsL ls sum g []).take 2)[1]?.getD []):=rfl
 have hFE:Hid (forE cells ls sum g=if (smallErr cells ls sum g != 0)=true then smallErr cells ls sum g else if (solsL ls sum g []).length=0 then 21 else 0):=rfl
 have hFV:Hid (forV cells ls sum g=if (smallErr cells ls sum g != 0)=true then [] else forL (solsL ls sum g [])):=rfl
 have hSE:Hid (smallErr cells ls sum g=if (taskErr cells ls sum g != 0)=true then taskErr cells ls sum g else whenV (decide (((openL g).length:Int)>16)) 20):=rfl
 have HS6:Hid (∀(G:GoodTask cells ls sum g),(openL g).length≤7→solsR ls sum g 6000=solsL ls sum g []∧(solsL ls sum g []).length≤17592186044416):=fun G h7=>by
  have h1:=solsR_eq G 6000
  have h2:=sols_count G h7
  exact ⟨by rw[show (6000:Int)=((6000:Nat):Int) from rfl,h1,List.take_of_length_le (by omega)],by omega⟩
 have HSL0:Hid (∀l,l∈solsL ls sum g []→l.length=n'):=fun l hl=>by rw[sols_len hl];exact h'.len
 clear h h'
 generalize uniqE cells ls sum g=UE at HU hUE
 generalize uniqL cells ls sum g=UL at HU hUL
 generalize witE cells ls sum g=WE at HW hWE
 generalize witL cells ls sum g 0=WA at HW hW0
 generalize witL cells ls sum g 1=WB at HW hW1
 generalize forE cells ls sum g=FE at HF hFE
 generalize forV cells ls sum g=FV at HF hFV
 generalize smallErr cells ls sum g=se at hUE hUL hWE hW0 hW1 hFE hFV hSE
 generalize taskErr cells ls sum g=te at HTK HGT HGL hSE
 generalize short6B 40 ls g=sb at HSH
 generalize hsl9:solsL ls sum g []=SL at hUE hUL hWE hW0 hW1 hFE hFV HS6 HSL0
 clear hsl9
 go_enter Tryz.func11,Tryz.ntmps11
 go_upto_region 2 with fail
 have fsz:((w.alloc (.cells #[.int .i64 cells,.slice a n c,.int .i64 sum,.slice a' n' c'] 27)).alloc (.cells #[.int .i64 cells,.slice a n c,.int .i64 sum,.slice a' n' c'] 28)).heap.size=w.heap.size+2:=by simp only[World.size_alloc] <;> omega
 have fB:Below w.heap.size w ((w.alloc (.cells #[.int .i64 cells,.slice a n c,.int .i64 sum,.slice a' n' c'] 27)).alloc (.cells #[.int .i64 cells,.slice a n c,.int .i64 sum,.slice a' n' c'] 28)):=((Below.refl _ _).alloc (Nat.le_refl _) _).alloc (by simp only[World.size_alloc];omega) _
 have fq0:((w.alloc (.cells #[.int .i64 cells,.slice a n c,.int .i64 sum,.slice a' n' c'] 27)).alloc (.cells #[.int .i64 cells,.slice a n c,.int .i64 sum,.slice a' n' c'] 28)).heap[w.heap.size]?=some (.cells #[.int .i64 cells,.slice a n c,.int .i64 sum,.slice a' n' c'] 27 (0,0)):=by have h:=World.alloc_heap_new w (.cells #[.int .i64 cells,.slice a n c,.int .i64 sum,.slice a' n' c'] 27);exact (Below.heap_alloc _ _ _ (by simp only[World.size_alloc];omega)).trans (h)
 have fq1:((w.alloc (.cells #[.int .i64 cells,.slice a n c,.int .i64 sum,.slice a' n' c'] 27)).alloc (.cells #[.int .i64 cells,.slice a n c,.int .i64 sum,.slice a' n' c'] 28)).heap[w.heap.size+1]?=some (.cells #[.int .i64 cells,.slice a n c,.int .i64 sum,.slice a' n' c'] 28 (0,0)):=by have h:=World.alloc_heap_new (w.alloc (.cells #[.int .i64 cells,.slice a n c,.int .i64 sum,.slice a' n' c'] 27)) (.cells #[.int .i64 cells,.slice a n c,.int .i64 sum,.slice a' n' c'] 28);simp only[World.size_alloc] at h;exact h
 generalize ((w.alloc (.cells #[.int .i64 cells,.slice a n c,.int .i64 sum,.slice a' n' c'] 27)).alloc (.cells #[.int .i64 cells,.slice a n c,.int .i64 sum,.slice a' n' c'] 28))=W0 at fsz fB fq0 fq1 ⊢
 have HQ0:=Lib.hid fq0
 have HQ1:=Lib.hid fq1
 have x0:W0.cell? ⟨w.heap.size+1,0,none⟩=some (.int .i64 cells):=q_cell fq1 0
 have x1:W0.cell? ⟨w.heap.size+1,1,none⟩=some (.slice a n c):=q_cell fq1 1
 have x2:W0.cell? ⟨w.heap.size+1,2,none⟩=some (.int .i64 sum):=q_cell fq1 2
 have x3:W0.cell? ⟨w.heap.size+1,3,none⟩=some (.slice a' n' c'):=q_cell fq1 3
 have xl:=q_lt fq1
 have y0:W0.cell? ⟨w.heap.size,0,none⟩=some (.int .i64 cells):=q_cell fq0 0
 have y1:W0.cell? ⟨w.heap.size,1,none⟩=some (.slice a n c):=q_cell fq0 1
 have y2:W0.cell? ⟨w.heap.size,2,none⟩=some (.int .i64 sum):=q_cell fq0 2
 have y3:W0.cell? ⟨w.heap.size,3,none⟩=some (.slice a' n' c'):=q_cell fq0 3
 have yl:=q_lt fq0
 have hcur:Below W0.heap.size W0 W0:=Below.refl _ _
 clear fq0 fq1 fsz
 cases sb with
 | false =>
  go_wp2_with (first|(go_at_call 14;refine (HSH.out _ (keep_trans fB hcur)).mono ?_;rintro _ w1 ⟨rfl,hb1⟩;replace hcur:=keep_trans hcur hb1;replace x0:=q_cell (keepq hcur HQ1.out) 0;replace x1:=q_cell (keepq hcur HQ1.out) 1;replace x2:=q_cell (keepq hcur HQ1.out) 2;replace x3:=q_cell (keepq hcur HQ1.out) 3;replace xl:=q_lt (keepq hcur HQ1.out);replace y0:=q_cell (keepq hcur HQ0.out) 0;replace y1:=q_cell (keepq hcur HQ0.out) 1;replace y2:=q_cell (keepq hcur HQ0.out) 2;replace y3:=q_cell (keepq hcur HQ0.out) 3;replace yl:=q_lt (keepq hcur HQ0.out))|(go_at_call 17;refine (HA.out _).mono ?_;rintro _ w1 ⟨rfl,hb1⟩;replace hcur:=keep_trans hcur hb1))
  go_ret
  exact ⟨rfl,keep_trans fB hcur⟩
 | true =>
  by_cases ht:te=0
  ·subst ht
   have G:=HGT.out rfl
   have HM:=Lib.hid (HGL.out rfl)
   rw[if_neg (by decide)] at hSE
   by_cases h7:(openL g).length≤7
   ·have h7i:¬(7:Int)<((openL g).length:Int):=by omega
    have h16i:¬(16:Int)<((openL g).length:Int):=by omega
    have hse:se=0:=by rw[hSE.out,decide_eq_false (by omega)];rfl
    subst hse
    obtain ⟨hs1,hs2⟩:=HS6.out G h7
    have HSZ:=Lib.hid hs2
    have HSO:=Lib.hid (HSO.out G h7)
    rw[hs1] at HSO
    rw[if_neg (by decide)] at hUE hUL hWE hW0 hW1 hFE hFV
    clear HGT HGL HS6 hs1 hs2 hSE
    rcases SL with _|⟨x,_|⟨y,r⟩⟩
    ·rw[hUE.out,hUL.out] at HU
     rw[hWE.out,hW0.out,hW1.out] at HW
     rw[hFE.out,hFV.out] at HF
     clear hUE hUL hWE hW0 hW1 hFE hFV
     replace HU:Hid (∀w1,Below w.heap.size w w1→Calls Tryz.prog 45 #[.agg #[.int .i64 cells,.slice a n c,.int .i64 sum,.slice a' n' c']] w1 fun e w'=>∃ar nr cr,e = .returned (.tuple #[.slice ar nr cr,.int .i64 21])∧IC w' ar nr []∧nr≤cr∧Below w1.heap.size w1 w'):=HU
     replace HW:Hid (∀w1,Below w.heap.size w w1→Calls Tryz.prog 46 #[.agg #[.int .i64 cells,.slice a n c,.int .i64 sum,.slice a' n' c']] w1 fun e w'=>∃ar nr cr ar' nr' cr',e = .returned (.tuple #[.slice ar nr cr,.slice ar' nr' cr',.int .i64 21])∧IC w' ar nr []∧nr≤cr∧IC w' ar' nr' []∧nr'≤cr'∧Below w1.heap.size w1 w'):=HW
     replace HF:Hid (∀w1,Below w.heap.size w w1→Calls Tryz.prog 47 #[.agg #[.int .i64 cells,.slice a n c,.int .i64 sum,.slice a' n' c']] w1 fun e w'=>(∃ar nr cr,e = .returned (.tuple #[.slice ar nr cr,.int .i64 21])∧IC w' ar nr []∧nr≤cr)∧Below w1.heap.size w1 w'):=HF
     have HSL:=HSL0
     clear HSL0
     go_wp2_with (first|(go_at_call 14;refine (HSH.out _ (keep_trans fB hcur)).mono ?_;rintro _ w1 ⟨rfl,hb1⟩;replace hcur:=keep_trans hcur hb1;replace x0:=q_cell (keepq hcur HQ1.out) 0;replace x1:=q_cell (keepq hcur HQ1.out) 1;replace x2:=q_cell (keepq hcur HQ1.out) 2;replace x3:=q_cell (keepq hcur HQ1.out) 3;replace xl:=q_lt (keepq hcur HQ1.out);replace y0:=q_cell (keepq hcur HQ0.out) 0;replace y1:=q_cell (keepq hcur HQ0.out) 1;replace y2:=q_cell (keepq hcur HQ0.out) 2;replace y3:=q_cell (keepq hcur HQ0.out) 3;replace yl:=q_lt (keepq hcur HQ0.out))|(go_at_call 15;refine (HTK.out _ (keep_trans fB hcur)).mono ?_;rintro _ w1 ⟨rfl,hb1⟩;replace hcur:=keep_trans hcur hb1;replace x0:=q_cell (keepq hcur HQ1.out) 0;replace x1:=q_cell (keepq hcur HQ1.out) 1;replace x2:=q_cell (keepq hcur HQ1.out) 2;replace x3:=q_cell (keepq hcur HQ1.out) 3;replace xl:=q_lt (keepq hcur HQ1.out);replace y0:=q_cell (keepq hcur HQ0.out) 0;replace y1:=q_cell (keepq hcur HQ0.out) 1;replace y2:=q_cell (keepq hcur HQ0.out) 2;replace y3:=q_cell (keepq hcur HQ0.out) 3;replace yl:=q_lt (keepq hcur HQ0.out))|(go_at_call 16;refine (HOP.out _ (keep_trans fB hcur)).mono ?_;rintro _ w1 ⟨vo,rfl,howno,hb1⟩;obtain ⟨ao,co,rfl⟩:=owns_shape howno;clear howno;replace hcur:=keep_trans hcur hb1;replace x0:=q_cell (keepq hcur HQ1.out) 0;replace x1:=q_cell (keepq hcur HQ1.out) 1;replace x2:=q_cell (keepq hcur HQ1.out) 2;replace x3:=q_cell (keepq hcur HQ1.out) 3;replace xl:=q_lt (keepq hcur HQ1.out);replace y0:=q_cell (keepq hcur HQ0.out) 0;replace y1:=q_cell (keepq hcur HQ0.out) 1;replace y2:=q_cell (keepq hcur HQ0.out) 2;replace y3:=q_cell (keepq hcur HQ0.out) 3;replace yl:=q_lt (keepq hcur HQ0.out)))
     refine (HU.out _ (keep_trans fB hcur)).mono ?_
     rintro _ w1 ⟨au,nu,cu,rfl,hU,hcu,hb1⟩
     replace hcur:=keep_trans hcur hb1
     replace x0:=q_cell (keepq hcur HQ1.out) 0
     replace x1:=q_cell (keepq hcur HQ1.out) 1
     replace x2:=q_cell (keepq hcur HQ1.out) 2
     replace x3:=q_cell (keepq hcur HQ1.out) 3
     replace xl:=q_lt (keepq hcur HQ1.out)
     replace y0:=q_cell (keepq hcur HQ0.out) 0
     replace y1:=q_cell (keepq hcur HQ0.out) 1
     replace y2:=q_cell (keepq hcur HQ0.out) 2
     replace y3:=q_cell (keepq hcur HQ0.out) 3
     replace yl:=q_lt (keepq hcur HQ0.out)
     have hUl:=hU.len
     rw[List.length_nil] at hUl
     subst hUl
     clear hU
     go_wp2_with fail
     refine (HW.out _ (keep_trans fB hcur)).mono ?_
     rintro _ w1 ⟨aa,na,ca,ab,nb,cb,rfl,hA,hca,hB,hcb,hb1⟩
     replace hcur:=keep_trans hcur hb1
     replace x0:=q_cell (keepq hcur HQ1.out) 0
     replace x1:=q_cell (keepq hcur HQ1.out) 1
     replace x2:=q_cell (keepq hcur HQ1.out) 2
     replace x3:=q_cell (keepq hcur HQ1.out) 3
     replace xl:=q_lt (keepq hcur HQ1.out)
     replace y0:=q_cell (keepq hcur HQ0.out) 0
     replace y1:=q_cell (keepq hcur HQ0.out) 1
     replace y2:=q_cell (keepq hcur HQ0.out) 2
     replace y3:=q_cell (keepq hcur HQ0.out) 3
     replace yl:=q_lt (keepq hcur HQ0.out)
     have hAl:=hA.len
     rw[List.length_nil] at hAl
     subst hAl
     have hBl:=hB.len
     rw[List.length_nil] at hBl
     subst hBl
     clear hA hB
     go_wp2_with fail
     refine (HF.out _ (keep_trans fB hcur)).mono ?_
     rintro _ w1 ⟨⟨ag,ng,cg,rfl,hG,hcg⟩,hb1⟩
     replace hcur:=keep_trans hcur hb1
     replace x0:=q_cell (keepq hcur HQ1.out) 0
     replace x1:=q_cell (keepq hcur HQ1.out) 1
     replace x2:=q_cell (keepq hcur HQ1.out) 2
     replace x3:=q_cell (keepq hcur HQ1.out) 3
     replace xl:=q_lt (keepq hcur HQ1.out)
     replace y0:=q_cell (keepq hcur HQ0.out) 0
     replace y1:=q_cell (keepq hcur HQ0.out) 1
     replace y2:=q_cell (keepq hcur HQ0.out) 2
     replace y3:=q_cell (keepq hcur HQ0.out) 3
     replace yl:=q_lt (keepq hcur HQ0.out)
     have hGl:=hG.len
     rw[List.length_nil] at hGl
     subst hGl
     clear hG
     go_wp2_with (first|(go_at_call 15;refine (HTK.out _ (keep_trans fB hcur)).mono ?_;rintro _ w1 ⟨rfl,hb1⟩;replace hcur:=keep_trans hcur hb1;replace x0:=q_cell (keepq hcur HQ1.out) 0;replace x1:=q_cell (keepq hcur HQ1.out) 1;replace x2:=q_cell (keepq hcur HQ1.out) 2;replace x3:=q_cell (keepq hcur HQ1.out) 3;replace xl:=q_lt (keepq hcur HQ1.out);replace y0:=q_cell (keepq hcur HQ0.out) 0;replace y1:=q_cell (keepq hcur HQ0.out) 1;replace y2:=q_cell (keepq hcur HQ0.out) 2;replace y3:=q_cell (keepq hcur HQ0.out) 3;replace yl:=q_lt (keepq hcur HQ0.out))|(go_at_call 16;refine (HOP.out _ (keep_trans fB hcur)).mono ?_;rintro _ w1 ⟨vo,rfl,howno,hb1⟩;obtain ⟨ao,co,rfl⟩:=owns_shape howno;clear howno;replace hcur:=keep_trans hcur hb1;replace x0:=q_cell (keepq hcur HQ1.out) 0;replace x1:=q_cell (keepq hcur HQ1.out) 1;replace x2:=q_cell (keepq hcur HQ1.out) 2;replace x3:=q_cell (keepq hcur HQ1.out) 3;replace xl:=q_lt (keepq hcur HQ1.out);replace y0:=q_cell (keepq hcur HQ0.out) 0;replace y1:=q_cell (keepq hcur HQ0.out) 1;replace y2:=q_cell (keepq hcur HQ0.out) 2;replace y3:=q_cell (keepq hcur HQ0.out) 3;replace yl:=q_lt (keepq hcur HQ0.out)))
     refine (HSO.out _ (keep_trans fB hcur)).mono ?_
     rintro _ w1 ⟨⟨vf,pre,rfl,hr,hall,_⟩,hb1⟩
     have hpl:=congrArg List.length hall
     rw[List.length_map] at hpl
     obtain ⟨a9,cs,e,hrc,hcs⟩:=hr.rc (by rw[hpl];exact HSZ.out) (hr.short hall (fun l hl=>by have h1:=HSL.out l hl;have h2:=HM.out.1;omega))
     subst e
     rw[hall] at hrc
     replace hcur:=keep_trans hcur hb1
     clear hr hall
     rw[List.length_nil] at hpl
     rw[hpl] at hrc hcs ⊢
     clear hrc hpl
     go_wp2_with (first|(go_at_call 17;refine (HA.out _).mono ?_;rintro _ w1 ⟨rfl,hb1⟩;replace hcur:=keep_trans hcur hb1))
     go_ret
     exact ⟨rfl,keep_trans fB hcur⟩
    ·rw[hUE.out,hUL.out] at HU
     rw[hWE.out,hW0.out,hW1.out] at HW
     rw[hFE.out,hFV.out] at HF
     clear hUE hUL hWE hW0 hW1 hFE hFV
     replace HU:Hid (∀w1,Below w.heap.size w w1→Calls Tryz.prog 45 #[.agg #[.int .i64 cells,.slice a n c,.int .i64 sum,.slice a' n' c']] w1 fun e w'=>∃ar nr cr,e = .returned (.tuple #[.slice ar nr cr,.int .i64 0])∧IC w' ar nr x∧nr≤cr∧Below w1.heap.size w1 w'):=HU
     replace HW:Hid (∀w1,Below w.heap.size w w1→Calls Tryz.prog 46 #[.agg #[.int .i64 cells,.slice a n c,.int .i64 sum,.slice a' n' c']] w1 fun e w'=>∃ar nr cr ar' nr' cr',e = .returned (.tuple #[.slice ar nr cr,.slice ar' nr' cr',.int .i64 21])∧IC w' ar nr []∧nr≤cr∧IC w' ar' nr' []∧nr'≤cr'∧Below w1.heap.size w1 w'):=HW
     replace HF:Hid (∀w1,Below w.heap.size w w1→Calls Tryz.prog 47 #[.agg #[.int .i64 cells,.slice a n c,.int .i64 sum,.slice a' n' c']] w1 fun e w'=>(∃ar nr cr,e = .returned (.tuple #[.slice ar nr cr,.int .i64 0])∧IC w' ar nr (forL [x])∧nr≤cr)∧Below w1.heap.size w1 w'):=HF
     have HSL:=HSL0
     have HFL:Hid ((forL [x]).length=n'):=by unfold Hid;rw[show forL [x]=forTo [x] 1 from rfl,forTo_len];exact HSL.out x (List.mem_cons_self ..)
     clear HSL0
     go_wp2_with (first|(go_at_call 14;refine (HSH.out _ (keep_trans fB hcur)).mono ?_;rintro _ w1 ⟨rfl,hb1⟩;replace hcur:=keep_trans hcur hb1;replace x0:=q_cell (keepq hcur HQ1.out) 0;replace x1:=q_cell (keepq hcur HQ1.out) 1;replace x2:=q_cell (keepq hcur HQ1.out) 2;replace x3:=q_cell (keepq hcur HQ1.out) 3;replace xl:=q_lt (keepq hcur HQ1.out);replace y0:=q_cell (keepq hcur HQ0.out) 0;replace y1:=q_cell (keepq hcur HQ0.out) 1;replace y2:=q_cell (keepq hcur HQ0.out) 2;replace y3:=q_cell (keepq hcur HQ0.out) 3;replace yl:=q_lt (keepq hcur HQ0.out))|(go_at_call 15;refine (HTK.out _ (keep_trans fB hcur)).mono ?_;rintro _ w1 ⟨rfl,hb1⟩;replace hcur:=keep_trans hcur hb1;replace x0:=q_cell (keepq hcur HQ1.out) 0;replace x1:=q_cell (keepq hcur HQ1.out) 1;replace x2:=q_cell (keepq hcur HQ1.out) 2;replace x3:=q_cell (keepq hcur HQ1.out) 3;replace xl:=q_lt (keepq hcur HQ1.out);replace y0:=q_cell (keepq hcur HQ0.out) 0;replace y1:=q_cell (keepq hcur HQ0.out) 1;replace y2:=q_cell (keepq hcur HQ0.out) 2;replace y3:=q_cell (keepq hcur HQ0.out) 3;replace yl:=q_lt (keepq hcur HQ0.out))|(go_at_call 16;refine (HOP.out _ (keep_trans fB hcur)).mono ?_;rintro _ w1 ⟨vo,rfl,howno,hb1⟩;obtain ⟨ao,co,rfl⟩:=owns_shape howno;clear howno;replace hcur:=keep_trans hcur hb1;replace x0:=q_cell (keepq hcur HQ1.out) 0;replace x1:=q_cell (keepq hcur HQ1.out) 1;replace x2:=q_cell (keepq hcur HQ1.out) 2;replace x3:=q_cell (keepq hcur HQ1.out) 3;replace xl:=q_lt (keepq hcur HQ1.out);replace y0:=q_cell (keepq hcur HQ0.out) 0;replace y1:=q_cell (keepq hcur HQ0.out) 1;replace y2:=q_cell (keepq hcur HQ0.out) 2;replace y3:=q_cell (keepq hcur HQ0.out) 3;replace yl:=q_lt (keepq hcur HQ0.out)))
     refine (HU.out _ (keep_trans fB hcur)).mono ?_
     rintro _ w1 ⟨au,nu,cu,rfl,hU,hcu,hb1⟩
     replace hcur:=keep_trans hcur hb1
     replace x0:=q_cell (keepq hcur HQ1.out) 0
     replace x1:=q_cell (keepq hcur HQ1.out) 1
     replace x2:=q_cell (keepq hcur HQ1.out) 2
     replace x3:=q_cell (keepq hcur HQ1.out) 3
     replace xl:=q_lt (keepq hcur HQ1.out)
     replace y0:=q_cell (keepq hcur HQ0.out) 0
     replace y1:=q_cell (keepq hcur HQ0.out) 1
     replace y2:=q_cell (keepq hcur HQ0.out) 2
     replace y3:=q_cell (keepq hcur HQ0.out) 3
     replace yl:=q_lt (keepq hcur HQ0.out)
     replace hU:=Lib.hid hU
     go_wp2_with fail
     refine (HW.out _ (keep_trans fB hcur)).mono ?_
     rintro _ w1 ⟨aa,na,ca,ab,nb,cb,rfl,hA,hca,hB,hcb,hb1⟩
     replace hcur:=keep_trans hcur hb1
     replace hU:=Lib.hid (hU.out.mono hb1)
     replace x0:=q_cell (keepq hcur HQ1.out) 0
     replace x1:=q_cell (keepq hcur HQ1.out) 1
     replace x2:=q_cell (keepq hcur HQ1.out) 2
     replace x3:=q_cell (keepq hcur HQ1.out) 3
     replace xl:=q_lt (keepq hcur HQ1.out)
     replace y0:=q_cell (keepq hcur HQ0.out) 0
     replace y1:=q_cell (keepq hcur HQ0.out) 1
     replace y2:=q_cell (keepq hcur HQ0.out) 2
     replace y3:=q_cell (keepq hcur HQ0.out) 3
     replace yl:=q_lt (keepq hcur HQ0.out)
     have hAl:=hA.len
     rw[List.length_nil] at hAl
     subst hAl
     have hBl:=hB.len
     rw[List.length_nil] at hBl
     subst hBl
     clear hA hB
     go_wp2_with fail
     refine (HF.out _ (keep_trans fB hcur)).mono ?_
     rintro _ w1 ⟨⟨ag,ng,cg,rfl,hG,hcg⟩,hb1⟩
     replace hcur:=keep_trans hcur hb1
     replace hU:=Lib.hid (hU.out.mono hb1)
     replace x0:=q_cell (keepq hcur HQ1.out) 0
     replace x1:=q_cell (keepq hcur HQ1.out) 1
     replace x2:=q_cell (keepq hcur HQ1.out) 2
     replace x3:=q_cell (keepq hcur HQ1.out) 3
     replace xl:=q_lt (keepq hcur HQ1.out)
     replace y0:=q_cell (keepq hcur HQ0.out) 0
     replace y1:=q_cell (keepq hcur HQ0.out) 1
     replace y2:=q_cell (keepq hcur HQ0.out) 2
     replace y3:=q_cell (keepq hcur HQ0.out) 3
     replace yl:=q_lt (keepq hcur HQ0.out)
     replace hG:=Lib.hid hG
     go_wp2_with (first|(go_at_call 15;refine (HTK.out _ (keep_trans fB hcur)).mono ?_;rintro _ w1 ⟨rfl,hb1⟩;replace hcur:=keep_trans hcur hb1;replace hU:=Lib.hid (hU.out.mono hb1);replace hG:=Lib.hid (hG.out.mono hb1);replace x0:=q_cell (keepq hcur HQ1.out) 0;replace x1:=q_cell (keepq hcur HQ1.out) 1;replace x2:=q_cell (keepq hcur HQ1.out) 2;replace x3:=q_cell (keepq hcur HQ1.out) 3;replace xl:=q_lt (keepq hcur HQ1.out);replace y0:=q_cell (keepq hcur HQ0.out) 0;replace y1:=q_cell (keepq hcur HQ0.out) 1;replace y2:=q_cell (keepq hcur HQ0.out) 2;replace y3:=q_cell (keepq hcur HQ0.out) 3;replace yl:=q_lt (keepq hcur HQ0.out))|(go_at_call 16;refine (HOP.out _ (keep_trans fB hcur)).mono ?_;rintro _ w1 ⟨vo,rfl,howno,hb1⟩;obtain ⟨ao,co,rfl⟩:=owns_shape howno;clear howno;replace hcur:=keep_trans hcur hb1;replace hU:=Lib.hid (hU.out.mono hb1);replace hG:=Lib.hid (hG.out.mono hb1);replace x0:=q_cell (keepq hcur HQ1.out) 0;replace x1:=q_cell (keepq hcur HQ1.out) 1;replace x2:=q_cell (keepq hcur HQ1.out) 2;replace x3:=q_cell (keepq hcur HQ1.out) 3;replace xl:=q_lt (keepq hcur HQ1.out);replace y0:=q_cell (keepq hcur HQ0.out) 0;replace y1:=q_cell (keepq hcur HQ0.out) 1;replace y2:=q_cell (keepq hcur HQ0.out) 2;replace y3:=q_cell (keepq hcur HQ0.out) 3;replace yl:=q_lt (keepq hcur HQ0.out)))
     refine (HSO.out _ (keep_trans fB hcur)).mono ?_
     rintro _ w1 ⟨⟨vf,pre,rfl,hr,hall,_⟩,hb1⟩
     have hpl:=congrArg List.length hall
     rw[List.length_map] at hpl
     obtain ⟨a9,cs,e,hrc,hcs⟩:=hr.rc (by rw[hpl];exact HSZ.out) (hr.short hall (fun l hl=>by have h1:=HSL.out l hl;have h2:=HM.out.1;omega))
     subst e
     rw[hall] at hrc
     replace hcur:=keep_trans hcur hb1
     replace hU:=Lib.hid (hU.out.mono hb1)
     replace hG:=Lib.hid (hG.out.mono hb1)
     clear hr hall
     have hN0:0<pre.length:=by rw[hpl];simp
     generalize pre.length=N at hpl hrc hcs hN0 ⊢
     have HRC:=Lib.hid hrc
     obtain ⟨b9,o9,a1,n1,c1',rfl,l0,c0,hi0,_⟩:=hrc.2 0 hN0
     rw[Nat.add_zero] at c0
     have i0:=Lib.hid hi0
     have hN1:N=1:=by rw[hpl];rfl
     subst hN1
     clear hi0 hrc hpl
     go_wp2_with fail
     refine (rforced_c (some ⟨b9,o9,none⟩) 1 cs _ n' _ HRC.out hN0 HM.out.1 HM.out.2 HSL.out).mono ?_
     rintro _ w1 ⟨vr,rfl,hvr,hb1⟩
     obtain ⟨ar,cr,rfl⟩:=owns_shape hvr
     replace hcur:=keep_trans hcur hb1
     replace HRC:=Lib.hid (HRC.out.mono hb1)
     replace c0:=((bcell hb1).1 _ _ l0).trans c0
     replace i0:=Lib.hid (i0.out.mono hb1)
     replace l0:=Nat.lt_of_lt_of_le l0 hb1.size
     replace hU:=Lib.hid (hU.out.mono hb1)
     replace hG:=Lib.hid (hG.out.mono hb1)
     have hR:=(IC.of_owns (xs:=forL [x]) (by rw[HFL.out];exact hvr) (by have:=HM.out.1;have:=HFL.out;omega)).1
     have HSG:=Lib.hid (same_c _ _ _ _ cg cr _ _ _ hG.out hR)
     rw[show ∀z:List Int,sameB z z=true from fun z=>by simp[sameB]] at HSG
     clear hvr hR
     go_wp2_with fail
     refine HSG.out.mono ?_
     rintro _ w1 ⟨rfl,hb1⟩
     replace hcur:=keep_trans hcur hb1
     replace HRC:=Lib.hid (HRC.out.mono hb1)
     replace c0:=((bcell hb1).1 _ _ l0).trans c0
     replace i0:=Lib.hid (i0.out.mono hb1)
     replace l0:=Nat.lt_of_lt_of_le l0 hb1.size
     replace hU:=Lib.hid (hU.out.mono hb1)
     replace hG:=Lib.hid (hG.out.mono hb1)
     have HS0:=Lib.hid (same_c _ _ _ _ cu c1' x x _ hU.out i0.out)
     rw[show ∀z:List Int,sameB z z=true from fun z=>by simp[sameB]] at HS0
     go_wp2_with fail
     refine HS0.out.mono ?_
     rintro _ w1 ⟨rfl,hb1⟩
     replace hcur:=keep_trans hcur hb1
     replace HRC:=Lib.hid (HRC.out.mono hb1)
     replace c0:=((bcell hb1).1 _ _ l0).trans c0
     replace i0:=Lib.hid (i0.out.mono hb1)
     replace l0:=Nat.lt_of_lt_of_le l0 hb1.size
     replace hU:=Lib.hid (hU.out.mono hb1)
     replace hG:=Lib.hid (hG.out.mono hb1)
     go_wp2_with (first|(go_at_call 17;refine (HA.out _).mono ?_;rintro _ w1 ⟨rfl,hb1⟩;replace hcur:=keep_trans hcur hb1))
     go_ret
     exact ⟨rfl,keep_trans fB hcur⟩
    ·rw[hUE.out,hUL.out] at HU
     rw[hWE.out,hW0.out,hW1.out] at HW
     rw[hFE.out,hFV.out] at HF
     clear hUE hUL hWE hW0 hW1 hFE hFV
     replace HU:Hid (∀w1,Below w.heap.size w w1→Calls Tryz.prog 45 #[.agg #[.int .i64 cells,.slice a n c,.int .i64 sum,.slice a' n' c']] w1 fun e w'=>∃ar nr cr,e = .returned (.tuple #[.slice ar nr cr,.int .i64 22])∧IC w' ar nr []∧nr≤cr∧Below w1.heap.size w1 w'):=HU
     replace HW:Hid (∀w1,Below w.heap.size w w1→Calls Tryz.prog 46 #[.agg #[.int .i64 cells,.slice a n c,.int .i64 sum,.slice a' n' c']] w1 fun e w'=>∃ar nr cr ar' nr' cr',e = .returned (.tuple #[.slice ar nr cr,.slice ar' nr' cr',.int .i64 0])∧IC w' ar nr x∧nr≤cr∧IC w' ar' nr' y∧nr'≤cr'∧Below w1.heap.size w1 w'):=HW
     replace HF:Hid (∀w1,Below w.heap.size w w1→Calls Tryz.prog 47 #[.agg #[.int .i64 cells,.slice a n c,.int .i64 sum,.slice a' n' c']] w1 fun e w'=>(∃ar nr cr,e = .returned (.tuple #[.slice ar nr cr,.int .i64 0])∧IC w' ar nr (forL (x :: y :: r))∧nr≤cr)∧Below w1.heap.size w1 w'):=HF
     have HSL:=HSL0
     have HFL:Hid ((forL (x :: y :: r)).length=n'):=by unfold Hid;rw[show forL (x :: y :: r)=forTo (x :: y :: r) (x :: y :: r).length from rfl,forTo_len];exact HSL.out x (List.mem_cons_self ..)
     clear HSL0
     go_wp2_with (first|(go_at_call 14;refine (HSH.out _ (keep_trans fB hcur)).mono ?_;rintro _ w1 ⟨rfl,hb1⟩;replace hcur:=keep_trans hcur hb1;replace x0:=q_cell (keepq hcur HQ1.out) 0;replace x1:=q_cell (keepq hcur HQ1.out) 1;replace x2:=q_cell (keepq hcur HQ1.out) 2;replace x3:=q_cell (keepq hcur HQ1.out) 3;replace xl:=q_lt (keepq hcur HQ1.out);replace y0:=q_cell (keepq hcur HQ0.out) 0;replace y1:=q_cell (keepq hcur HQ0.out) 1;replace y2:=q_cell (keepq hcur HQ0.out) 2;replace y3:=q_cell (keepq hcur HQ0.out) 3;replace yl:=q_lt (keepq hcur HQ0.out))|(go_at_call 15;refine (HTK.out _ (keep_trans fB hcur)).mono ?_;rintro _ w1 ⟨rfl,hb1⟩;replace hcur:=keep_trans hcur hb1;replace x0:=q_cell (keepq hcur HQ1.out) 0;replace x1:=q_cell (keepq hcur HQ1.out) 1;replace x2:=q_cell (keepq hcur HQ1.out) 2;replace x3:=q_cell (keepq hcur HQ1.out) 3;replace xl:=q_lt (keepq hcur HQ1.out);replace y0:=q_cell (keepq hcur HQ0.out) 0;replace y1:=q_cell (keepq hcur HQ0.out) 1;replace y2:=q_cell (keepq hcur HQ0.out) 2;replace y3:=q_cell (keepq hcur HQ0.out) 3;replace yl:=q_lt (keepq hcur HQ0.out))|(go_at_call 16;refine (HOP.out _ (keep_trans fB hcur)).mono ?_;rintro _ w1 ⟨vo,rfl,howno,hb1⟩;obtain ⟨ao,co,rfl⟩:=owns_shape howno;clear howno;replace hcur:=keep_trans hcur hb1;replace x0:=q_cell (keepq hcur HQ1.out) 0;replace x1:=q_cell (keepq hcur HQ1.out) 1;replace x2:=q_cell (keepq hcur HQ1.out) 2;replace x3:=q_cell (keepq hcur HQ1.out) 3;replace xl:=q_lt (keepq hcur HQ1.out);replace y0:=q_cell (keepq hcur HQ0.out) 0;replace y1:=q_cell (keepq hcur HQ0.out) 1;replace y2:=q_cell (keepq hcur HQ0.out) 2;replace y3:=q_cell (keepq hcur HQ0.out) 3;replace yl:=q_lt (keepq hcur HQ0.out)))
     refine (HU.out _ (keep_trans fB hcur)).mono ?_
     rintro _ w1 ⟨au,nu,cu,rfl,hU,hcu,hb1⟩
     replace hcur:=keep_trans hcur hb1
     replace x0:=q_cell (keepq hcur HQ1.out) 0
     replace x1:=q_cell (keepq hcur HQ1.out) 1
     replace x2:=q_cell (keepq hcur HQ1.out) 2
     replace x3:=q_cell (keepq hcur HQ1.out) 3
     replace xl:=q_lt (keepq hcur HQ1.out)
     replace y0:=q_cell (keepq hcur HQ0.out) 0
     replace y1:=q_cell (keepq hcur HQ0.out) 1
     replace y2:=q_cell (keepq hcur HQ0.out) 2
     replace y3:=q_cell (keepq hcur HQ0.out) 3
     replace yl:=q_lt (keepq hcur HQ0.out)
     have hUl:=hU.len
     rw[List.length_nil] at hUl
     subst hUl
     clear hU
     go_wp2_with fail
     refine (HW.out _ (keep_trans fB hcur)).mono ?_
     rintro _ w1 ⟨aa,na,ca,ab,nb,cb,rfl,hA,hca,hB,hcb,hb1⟩
     replace hcur:=keep_trans hcur hb1
     replace x0:=q_cell (keepq hcur HQ1.out) 0
     replace x1:=q_cell (keepq hcur HQ1.out) 1
     replace x2:=q_cell (keepq hcur HQ1.out) 2
     replace x3:=q_cell (keepq hcur HQ1.out) 3
     replace xl:=q_lt (keepq hcur HQ1.out)
     replace y0:=q_cell (keepq hcur HQ0.out) 0
     replace y1:=q_cell (keepq hcur HQ0.out) 1
     replace y2:=q_cell (keepq hcur HQ0.out) 2
     replace y3:=q_cell (keepq hcur HQ0.out) 3
     replace yl:=q_lt (keepq hcur HQ0.out)
     replace hA:=Lib.hid hA
     replace hB:=Lib.hid hB
     go_wp2_with fail
     refine (HF.out _ (keep_trans fB hcur)).mono ?_
     rintro _ w1 ⟨⟨ag,ng,cg,rfl,hG,hcg⟩,hb1⟩
     replace hcur:=keep_trans hcur hb1
     replace hA:=Lib.hid (hA.out.mono hb1)
     replace hB:=Lib.hid (hB.out.mono hb1)
     replace x0:=q_cell (keepq hcur HQ1.out) 0
     replace x1:=q_cell (keepq hcur HQ1.out) 1
     replace x2:=q_cell (keepq hcur HQ1.out) 2
     replace x3:=q_cell (keepq hcur HQ1.out) 3
     replace xl:=q_lt (keepq hcur HQ1.out)
     replace y0:=q_cell (keepq hcur HQ0.out) 0
     replace y1:=q_cell (keepq hcur HQ0.out) 1
     replace y2:=q_cell (keepq hcur HQ0.out) 2
     replace y3:=q_cell (keepq hcur HQ0.out) 3
     replace yl:=q_lt (keepq hcur HQ0.out)
     replace hG:=Lib.hid hG
     go_wp2_with (first|(go_at_call 15;refine (HTK.out _ (keep_trans fB hcur)).mono ?_;rintro _ w1 ⟨rfl,hb1⟩;replace hcur:=keep_trans hcur hb1;replace hA:=Lib.hid (hA.out.mono hb1);replace hB:=Lib.hid (hB.out.mono hb1);replace hG:=Lib.hid (hG.out.mono hb1);replace x0:=q_cell (keepq hcur HQ1.out) 0;replace x1:=q_cell (keepq hcur HQ1.out) 1;replace x2:=q_cell (keepq hcur HQ1.out) 2;replace x3:=q_cell (keepq hcur HQ1.out) 3;replace xl:=q_lt (keepq hcur HQ1.out);replace y0:=q_cell (keepq hcur HQ0.out) 0;replace y1:=q_cell (keepq hcur HQ0.out) 1;replace y2:=q_cell (keepq hcur HQ0.out) 2;replace y3:=q_cell (keepq hcur HQ0.out) 3;replace yl:=q_lt (keepq hcur HQ0.out))|(go_at_call 16;refine (HOP.out _ (keep_trans fB hcur)).mono ?_;rintro _ w1 ⟨vo,rfl,howno,hb1⟩;obtain ⟨ao,co,rfl⟩:=owns_shape howno;clear howno;replace hcur:=keep_trans hcur hb1;replace hA:=Lib.hid (hA.out.mono hb1);replace hB:=Lib.hid (hB.out.mono hb1);replace hG:=Lib.hid (hG.out.mono hb1);replace x0:=q_cell (keepq hcur HQ1.out) 0;replace x1:=q_cell (keepq hcur HQ1.out) 1;replace x2:=q_cell (keepq hcur HQ1.out) 2;replace x3:=q_cell (keepq hcur HQ1.out) 3;replace xl:=q_lt (keepq hcur HQ1.out);replace y0:=q_cell (keepq hcur HQ0.out) 0;replace y1:=q_cell (keepq hcur HQ0.out) 1;replace y2:=q_cell (keepq hcur HQ0.out) 2;replace y3:=q_cell (keepq hcur HQ0.out) 3;replace yl:=q_lt (keepq hcur HQ0.out)))
     refine (HSO.out _ (keep_trans fB hcur)).mono ?_
     rintro _ w1 ⟨⟨vf,pre,rfl,hr,hall,_⟩,hb1⟩
     have hpl:=congrArg List.length hall
     rw[List.length_map] at hpl
     obtain ⟨a9,cs,e,hrc,hcs⟩:=hr.rc (by rw[hpl];exact HSZ.out) (hr.short hall (fun l hl=>by have h1:=HSL.out l hl;have h2:=HM.out.1;omega))
     subst e
     rw[hall] at hrc
     replace hcur:=keep_trans hcur hb1
     replace hA:=Lib.hid (hA.out.mono hb1)
     replace hB:=Lib.hid (hB.out.mono hb1)
     replace hG:=Lib.hid (hG.out.mono hb1)
     clear hr hall
     have hN0:0<pre.length:=by rw[hpl];simp
     generalize pre.length=N at hpl hrc hcs hN0 ⊢
     have HRC:=Lib.hid hrc
     obtain ⟨b9,o9,a1,n1,c1',rfl,l0,c0,hi0,_⟩:=hrc.2 0 hN0
     rw[Nat.add_zero] at c0
     have i0:=Lib.hid hi0
     have hN1:1<N:=by rw[hpl];simp
     obtain ⟨b8,o8,a2,n2,c2,e,_,c1,hi1,_⟩:=hrc.2 1 hN1
     cases e
     have i1:=Lib.hid hi1
     clear hi1
     have hNi:(1:Int)<(N:Int):=by omega
     have hNj:¬(N:Int)=1:=by omega
     clear hi0 hrc hpl
     have hNk:(0:Int)<(N:Int):=by omega
     have hNz:¬(N:Int)=0:=by omega
     go_wp2_with fail
     refine (rforced_c (some ⟨b9,o9,none⟩) N cs _ n' _ HRC.out hN0 HM.out.1 HM.out.2 HSL.out).mono ?_
     rintro _ w1 ⟨vr,rfl,hvr,hb1⟩
     obtain ⟨ar,cr,rfl⟩:=owns_shape hvr
     replace hcur:=keep_trans hcur hb1
     replace HRC:=Lib.hid (HRC.out.mono hb1)
     replace c0:=((bcell hb1).1 _ _ l0).trans c0
     replace i0:=Lib.hid (i0.out.mono hb1)
     replace c1:=((bcell hb1).1 _ _ l0).trans c1
     replace i1:=Lib.hid (i1.out.mono hb1)
     replace l0:=Nat.lt_of_lt_of_le l0 hb1.size
     replace hA:=Lib.hid (hA.out.mono hb1)
     replace hB:=Lib.hid (hB.out.mono hb1)
     replace hG:=Lib.hid (hG.out.mono hb1)
     have hR:=(IC.of_owns (xs:=forL (x :: y :: r)) (by rw[HFL.out];exact hvr) (by have:=HM.out.1;have:=HFL.out;omega)).1
     have HSG:=Lib.hid (same_c _ _ _ _ cg cr _ _ _ hG.out hR)
     rw[show ∀z:List Int,sameB z z=true from fun z=>by simp[sameB]] at HSG
     clear hvr hR
     go_wp2_with fail
     refine HSG.out.mono ?_
     rintro _ w1 ⟨rfl,hb1⟩
     replace hcur:=keep_trans hcur hb1
     replace HRC:=Lib.hid (HRC.out.mono hb1)
     replace c0:=((bcell hb1).1 _ _ l0).trans c0
     replace i0:=Lib.hid (i0.out.mono hb1)
     replace c1:=((bcell hb1).1 _ _ l0).trans c1
     replace i1:=Lib.hid (i1.out.mono hb1)
     replace l0:=Nat.lt_of_lt_of_le l0 hb1.size
     replace hA:=Lib.hid (hA.out.mono hb1)
     replace hB:=Lib.hid (hB.out.mono hb1)
     replace hG:=Lib.hid (hG.out.mono hb1)
     have HS0:=Lib.hid (same_c _ _ _ _ ca c1' x x _ hA.out i0.out)
     rw[show ∀z:List Int,sameB z z=true from fun z=>by simp[sameB]] at HS0
     go_wp2_with fail
     refine HS0.out.mono ?_
     rintro _ w1 ⟨rfl,hb1⟩
     replace hcur:=keep_trans hcur hb1
     replace HRC:=Lib.hid (HRC.out.mono hb1)
     replace c0:=((bcell hb1).1 _ _ l0).trans c0
     replace i0:=Lib.hid (i0.out.mono hb1)
     replace c1:=((bcell hb1).1 _ _ l0).trans c1
     replace i1:=Lib.hid (i1.out.mono hb1)
     replace l0:=Nat.lt_of_lt_of_le l0 hb1.size
     replace hA:=Lib.hid (hA.out.mono hb1)
     replace hB:=Lib.hid (hB.out.mono hb1)
     replace hG:=Lib.hid (hG.out.mono hb1)
     have HS1:=Lib.hid (same_c _ _ _ _ cb c2 y y _ hB.out i1.out)
     rw[show ∀z:List Int,sameB z z=true from fun z=>by simp[sameB]] at HS1
     go_wp2_with fail
     refine HS1.out.mono ?_
     rintro _ w1 ⟨rfl,hb1⟩
     replace hcur:=keep_trans hcur hb1
     replace HRC:=Lib.hid (HRC.out.mono hb1)
     replace c0:=((bcell hb1).1 _ _ l0).trans c0
     replace i0:=Lib.hid (i0.out.mono hb1)
     replace c1:=((bcell hb1).1 _ _ l0).trans c1
     replace i1:=Lib.hid (i1.out.mono hb1)
     replace l0:=Nat.lt_of_lt_of_le l0 hb1.size
     replace hA:=Lib.hid (hA.out.mono hb1)
     replace hB:=Lib.hid (hB.out.mono hb1)
     replace hG:=Lib.hid (hG.out.mono hb1)
     go_wp2_with (first|(go_at_call 17;refine (HA.out _).mono ?_;rintro _ w1 ⟨rfl,hb1⟩;replace hcur:=keep_trans hcur hb1))
     go_ret
     exact ⟨rfl,keep_trans fB hcur⟩
   ·have h7i:(7:Int)<((openL g).length:Int):=by omega
    clear HSL0 HS6
    by_cases h16:(openL g).length≤16
    ·have h16i:((openL g).length:Int)≤16:=by omega
     clear HU HW HF
     go_wp2_with (first|(go_at_call 14;refine (HSH.out _ (keep_trans fB hcur)).mono ?_;rintro _ w1 ⟨rfl,hb1⟩;replace hcur:=keep_trans hcur hb1;replace x0:=q_cell (keepq hcur HQ1.out) 0;replace x1:=q_cell (keepq hcur HQ1.out) 1;replace x2:=q_cell (keepq hcur HQ1.out) 2;replace x3:=q_cell (keepq hcur HQ1.out) 3;replace xl:=q_lt (keepq hcur HQ1.out);replace y0:=q_cell (keepq hcur HQ0.out) 0;replace y1:=q_cell (keepq hcur HQ0.out) 1;replace y2:=q_cell (keepq hcur HQ0.out) 2;replace y3:=q_cell (keepq hcur HQ0.out) 3;replace yl:=q_lt (keepq hcur HQ0.out))|(go_at_call 15;refine (HTK.out _ (keep_trans fB hcur)).mono ?_;rintro _ w1 ⟨rfl,hb1⟩;replace hcur:=keep_trans hcur hb1;replace x0:=q_cell (keepq hcur HQ1.out) 0;replace x1:=q_cell (keepq hcur HQ1.out) 1;replace x2:=q_cell (keepq hcur HQ1.out) 2;replace x3:=q_cell (keepq hcur HQ1.out) 3;replace xl:=q_lt (keepq hcur HQ1.out);replace y0:=q_cell (keepq hcur HQ0.out) 0;replace y1:=q_cell (keepq hcur HQ0.out) 1;replace y2:=q_cell (keepq hcur HQ0.out) 2;replace y3:=q_cell (keepq hcur HQ0.out) 3;replace yl:=q_lt (keepq hcur HQ0.out))|(go_at_call 16;refine (HOP.out _ (keep_trans fB hcur)).mono ?_;rintro _ w1 ⟨vo,rfl,howno,hb1⟩;obtain ⟨ao,co,rfl⟩:=owns_shape howno;clear howno;replace hcur:=keep_trans hcur hb1;replace x0:=q_cell (keepq hcur HQ1.out) 0;replace x1:=q_cell (keepq hcur HQ1.out) 1;replace x2:=q_cell (keepq hcur HQ1.out) 2;replace x3:=q_cell (keepq hcur HQ1.out) 3;replace xl:=q_lt (keepq hcur HQ1.out);replace y0:=q_cell (keepq hcur HQ0.out) 0;replace y1:=q_cell (keepq hcur HQ0.out) 1;replace y2:=q_cell (keepq hcur HQ0.out) 2;replace y3:=q_cell (keepq hcur HQ0.out) 3;replace yl:=q_lt (keepq hcur HQ0.out))|(go_at_call 17;refine (HA.out _).mono ?_;rintro _ w1 ⟨rfl,hb1⟩;replace hcur:=keep_trans hcur hb1))
     go_ret
     exact ⟨rfl,keep_trans fB hcur⟩
    ·have h16i:(16:Int)<((openL g).length:Int):=by omega
     have h16j:¬((openL g).length:Int)≤16:=by omega
     have hse:se=20:=by rw[hSE.out,decide_eq_true (by omega)];rfl
     subst hse
     have hne:((20:Int) != 0)=true:=by decide
     rw[if_pos hne] at hUE hUL hWE hW0 hW1 hFE hFV
     rw[hUE.out,hUL.out] at HU
     rw[hWE.out,hW0.out,hW1.out] at HW
     rw[hFE.out,hFV.out] at HF
     clear hUE hUL hWE hW0 hW1 hFE hFV hSE hne HGT HGL
     go_wp2_with (first|(go_at_call 14;refine (HSH.out _ (keep_trans fB hcur)).mono ?_;rintro _ w1 ⟨rfl,hb1⟩;replace hcur:=keep_trans hcur hb1;replace x0:=q_cell (keepq hcur HQ1.out) 0;replace x1:=q_cell (keepq hcur HQ1.out) 1;replace x2:=q_cell (keepq hcur HQ1.out) 2;replace x3:=q_cell (keepq hcur HQ1.out) 3;replace xl:=q_lt (keepq hcur HQ1.out);replace y0:=q_cell (keepq hcur HQ0.out) 0;replace y1:=q_cell (keepq hcur HQ0.out) 1;replace y2:=q_cell (keepq hcur HQ0.out) 2;replace y3:=q_cell (keepq hcur HQ0.out) 3;replace yl:=q_lt (keepq hcur HQ0.out))|(go_at_call 15;refine (HTK.out _ (keep_trans fB hcur)).mono ?_;rintro _ w1 ⟨rfl,hb1⟩;replace hcur:=keep_trans hcur hb1;replace x0:=q_cell (keepq hcur HQ1.out) 0;replace x1:=q_cell (keepq hcur HQ1.out) 1;replace x2:=q_cell (keepq hcur HQ1.out) 2;replace x3:=q_cell (keepq hcur HQ1.out) 3;replace xl:=q_lt (keepq hcur HQ1.out);replace y0:=q_cell (keepq hcur HQ0.out) 0;replace y1:=q_cell (keepq hcur HQ0.out) 1;replace y2:=q_cell (keepq hcur HQ0.out) 2;replace y3:=q_cell (keepq hcur HQ0.out) 3;replace yl:=q_lt (keepq hcur HQ0.out))|(go_at_call 16;refine (HOP.out _ (keep_trans fB hcur)).mono ?_;rintro _ w1 ⟨vo,rfl,howno,hb1⟩;obtain ⟨ao,co,rfl⟩:=owns_shape howno;clear howno;replace hcur:=keep_trans hcur hb1;replace x0:=q_cell (keepq hcur HQ1.out) 0;replace x1:=q_cell (keepq hcur HQ1.out) 1;replace x2:=q_cell (keepq hcur HQ1.out) 2;replace x3:=q_cell (keepq hcur HQ1.out) 3;replace xl:=q_lt (keepq hcur HQ1.out);replace y0:=q_cell (keepq hcur HQ0.out) 0;replace y1:=q_cell (keepq hcur HQ0.out) 1;replace y2:=q_cell (keepq hcur HQ0.out) 2;replace y3:=q_cell (keepq hcur HQ0.out) 3;replace yl:=q_lt (keepq hcur HQ0.out)))
     refine (HU.out _ (keep_trans fB hcur)).mono ?_
     rintro _ w1 ⟨au,nu,cu,rfl,hU,hcu,hb1⟩
     replace hcur:=keep_trans hcur hb1
     replace x0:=q_cell (keepq hcur HQ1.out) 0
     replace x1:=q_cell (keepq hcur HQ1.out) 1
     replace x2:=q_cell (keepq hcur HQ1.out) 2
     replace x3:=q_cell (keepq hcur HQ1.out) 3
     replace xl:=q_lt (keepq hcur HQ1.out)
     replace y0:=q_cell (keepq hcur HQ0.out) 0
     replace y1:=q_cell (keepq hcur HQ0.out) 1
     replace y2:=q_cell (keepq hcur HQ0.out) 2
     replace y3:=q_cell (keepq hcur HQ0.out) 3
     replace yl:=q_lt (keepq hcur HQ0.out)
     have hUl:=hU.len
     rw[List.length_nil] at hUl
     subst hUl
     clear hU
     go_wp2_with fail
     refine (HW.out _ (keep_trans fB hcur)).mono ?_
     rintro _ w1 ⟨aa,na,ca,ab,nb,cb,rfl,hA,hca,hB,hcb,hb1⟩
     replace hcur:=keep_trans hcur hb1
     replace x0:=q_cell (keepq hcur HQ1.out) 0
     replace x1:=q_cell (keepq hcur HQ1.out) 1
     replace x2:=q_cell (keepq hcur HQ1.out) 2
     replace x3:=q_cell (keepq hcur HQ1.out) 3
     replace xl:=q_lt (keepq hcur HQ1.out)
     replace y0:=q_cell (keepq hcur HQ0.out) 0
     replace y1:=q_cell (keepq hcur HQ0.out) 1
     replace y2:=q_cell (keepq hcur HQ0.out) 2
     replace y3:=q_cell (keepq hcur HQ0.out) 3
     replace yl:=q_lt (keepq hcur HQ0.out)
     have hAl:=hA.len
     rw[List.length_nil] at hAl
     subst hAl
     have hBl:=hB.len
     rw[List.length_nil] at hBl
     subst hBl
     clear hA hB
     go_wp2_with fail
     refine (HF.out _ (keep_trans fB hcur)).mono ?_
     rintro _ w1 ⟨⟨ag,ng,cg,rfl,hG,hcg⟩,hb1⟩
     replace hcur:=keep_trans hcur hb1
     replace x0:=q_cell (keepq hcur HQ1.out) 0
     replace x1:=q_cell (keepq hcur HQ1.out) 1
     replace x2:=q_cell (keepq hcur HQ1.out) 2
     replace x3:=q_cell (keepq hcur HQ1.out) 3
     replace xl:=q_lt (keepq hcur HQ1.out)
     replace y0:=q_cell (keepq hcur HQ0.out) 0
     replace y1:=q_cell (keepq hcur HQ0.out) 1
     replace y2:=q_cell (keepq hcur HQ0.out) 2
     replace y3:=q_cell (keepq hcur HQ0.out) 3
     replace yl:=q_lt (keepq hcur HQ0.out)
     have hGl:=hG.len
     rw[List.length_nil] at hGl
     subst hGl
     clear hG
     go_wp2_with (first|(go_at_call 15;refine (HTK.out _ (keep_trans fB hcur)).mono ?_;rintro _ w1 ⟨rfl,hb1⟩;replace hcur:=keep_trans hcur hb1;replace x0:=q_cell (keepq hcur HQ1.out) 0;replace x1:=q_cell (keepq hcur HQ1.out) 1;replace x2:=q_cell (keepq hcur HQ1.out) 2;replace x3:=q_cell (keepq hcur HQ1.out) 3;replace xl:=q_lt (keepq hcur HQ1.out);replace y0:=q_cell (keepq hcur HQ0.out) 0;replace y1:=q_cell (keepq hcur HQ0.out) 1;replace y2:=q_cell (keepq hcur HQ0.out) 2;replace y3:=q_cell (keepq hcur HQ0.out) 3;replace yl:=q_lt (keepq hcur HQ0.out))|(go_at_call 16;refine (HOP.out _ (keep_trans fB hcur)).mono ?_;rintro _ w1 ⟨vo,rfl,howno,hb1⟩;obtain ⟨ao,co,rfl⟩:=owns_shape howno;clear howno;replace hcur:=keep_trans hcur hb1;replace x0:=q_cell (keepq hcur HQ1.out) 0;replace x1:=q_cell (keepq hcur HQ1.out) 1;replace x2:=q_cell (keepq hcur HQ1.out) 2;replace x3:=q_cell (keepq hcur HQ1.out) 3;replace xl:=q_lt (keepq hcur HQ1.out);replace y0:=q_cell (keepq hcur HQ0.out) 0;replace y1:=q_cell (keepq hcur HQ0.out) 1;replace y2:=q_cell (keepq hcur HQ0.out) 2;replace y3:=q_cell (keepq hcur HQ0.out) 3;replace yl:=q_lt (keepq hcur HQ0.out))|(go_at_call 17;refine (HA.out _).mono ?_;rintro _ w1 ⟨rfl,hb1⟩;replace hcur:=keep_trans hcur hb1))
     go_ret
     exact ⟨rfl,keep_trans fB hcur⟩
  ·have hti:(te==0)=false:=by simpa using ht
   have htn:(te != 0)=true:=by simpa using ht
   have hse:se=te:=by rw[hSE.out,if_pos htn]
   subst hse
   have hne:(se != 0)=true:=htn
   rw[if_pos hne] at hUE hUL hWE hW0 hW1 hFE hFV
   rw[hUE.out,hUL.out] at HU
   rw[hWE.out,hW0.out,hW1.out] at HW
   rw[hFE.out,hFV.out] at HF
   clear hUE hUL hWE hW0 hW1 hFE hFV hSE hne HGT HGL
   clear HSL0 HS6
   go_wp2_with (first|(go_at_call 14;refine (HSH.out _ (keep_trans fB hcur)).mono ?_;rintro _ w1 ⟨rfl,hb1⟩;replace hcur:=keep_trans hcur hb1;replace x0:=q_cell (keepq hcur HQ1.out) 0;replace x1:=q_cell (keepq hcur HQ1.out) 1;replace x2:=q_cell (keepq hcur HQ1.out) 2;replace x3:=q_cell (keepq hcur HQ1.out) 3;replace xl:=q_lt (keepq hcur HQ1.out);replace y0:=q_cell (keepq hcur HQ0.out) 0;replace y1:=q_cell (keepq hcur HQ0.out) 1;replace y2:=q_cell (keepq hcur HQ0.out) 2;replace y3:=q_cell (keepq hcur HQ0.out) 3;replace yl:=q_lt (keepq hcur HQ0.out))|(go_at_call 15;refine (HTK.out _ (keep_trans fB hcur)).mono ?_;rintro _ w1 ⟨rfl,hb1⟩;replace hcur:=keep_trans hcur hb1;replace x0:=q_cell (keepq hcur HQ1.out) 0;replace x1:=q_cell (keepq hcur HQ1.out) 1;replace x2:=q_cell (keepq hcur HQ1.out) 2;replace x3:=q_cell (keepq hcur HQ1.out) 3;replace xl:=q_lt (keepq hcur HQ1.out);replace y0:=q_cell (keepq hcur HQ0.out) 0;replace y1:=q_cell (keepq hcur HQ0.out) 1;replace y2:=q_cell (keepq hcur HQ0.out) 2;replace y3:=q_cell (keepq hcur HQ0.out) 3;replace yl:=q_lt (keepq hcur HQ0.out))|(go_at_call 16;refine (HOP.out _ (keep_trans fB hcur)).mono ?_;rintro _ w1 ⟨vo,rfl,howno,hb1⟩;obtain ⟨ao,co,rfl⟩:=owns_shape howno;clear howno;replace hcur:=keep_trans hcur hb1;replace x0:=q_cell (keepq hcur HQ1.out) 0;replace x1:=q_cell (keepq hcur HQ1.out) 1;replace x2:=q_cell (keepq hcur HQ1.out) 2;replace x3:=q_cell (keepq hcur HQ1.out) 3;replace xl:=q_lt (keepq hcur HQ1.out);replace y0:=q_cell (keepq hcur HQ0.out) 0;replace y1:=q_cell (keepq hcur HQ0.out) 1;replace y2:=q_cell (keepq hcur HQ0.out) 2;replace y3:=q_cell (keepq hcur HQ0.out) 3;replace yl:=q_lt (keepq hcur HQ0.out)))
   refine (HU.out _ (keep_trans fB hcur)).mono ?_
   rintro _ w1 ⟨au,nu,cu,rfl,hU,hcu,hb1⟩
   replace hcur:=keep_trans hcur hb1
   replace x0:=q_cell (keepq hcur HQ1.out) 0
   replace x1:=q_cell (keepq hcur HQ1.out) 1
   replace x2:=q_cell (keepq hcur HQ1.out) 2
   replace x3:=q_cell (keepq hcur HQ1.out) 3
   replace xl:=q_lt (keepq hcur HQ1.out)
   replace y0:=q_cell (keepq hcur HQ0.out) 0
   replace y1:=q_cell (keepq hcur HQ0.out) 1
   replace y2:=q_cell (keepq hcur HQ0.out) 2
   replace y3:=q_cell (keepq hcur HQ0.out) 3
   replace yl:=q_lt (keepq hcur HQ0.out)
   have hUl:=hU.len
   rw[List.length_nil] at hUl
   subst hUl
   clear hU
   go_wp2_with fail
   refine (HW.out _ (keep_trans fB hcur)).mono ?_
   rintro _ w1 ⟨aa,na,ca,ab,nb,cb,rfl,hA,hca,hB,hcb,hb1⟩
   replace hcur:=keep_trans hcur hb1
   replace x0:=q_cell (keepq hcur HQ1.out) 0
   replace x1:=q_cell (keepq hcur HQ1.out) 1
   replace x2:=q_cell (keepq hcur HQ1.out) 2
   replace x3:=q_cell (keepq hcur HQ1.out) 3
   replace xl:=q_lt (keepq hcur HQ1.out)
   replace y0:=q_cell (keepq hcur HQ0.out) 0
   replace y1:=q_cell (keepq hcur HQ0.out) 1
   replace y2:=q_cell (keepq hcur HQ0.out) 2
   replace y3:=q_cell (keepq hcur HQ0.out) 3
   replace yl:=q_lt (keepq hcur HQ0.out)
   have hAl:=hA.len
   rw[List.length_nil] at hAl
   subst hAl
   have hBl:=hB.len
   rw[List.length_nil] at hBl
   subst hBl
   clear hA hB
   go_wp2_with fail
   refine (HF.out _ (keep_trans fB hcur)).mono ?_
   rintro _ w1 ⟨⟨ag,ng,cg,rfl,hG,hcg⟩,hb1⟩
   replace hcur:=keep_trans hcur hb1
   replace x0:=q_cell (keepq hcur HQ1.out) 0
   replace x1:=q_cell (keepq hcur HQ1.out) 1
   replace x2:=q_cell (keepq hcur HQ1.out) 2
   replace x3:=q_cell (keepq hcur HQ1.out) 3
   replace xl:=q_lt (keepq hcur HQ1.out)
   replace y0:=q_cell (keepq hcur HQ0.out) 0
   replace y1:=q_cell (keepq hcur HQ0.out) 1
   replace y2:=q_cell (keepq hcur HQ0.out) 2
   replace y3:=q_cell (keepq hcur HQ0.out) 3
   replace yl:=q_lt (keepq hcur HQ0.out)
   have hGl:=hG.len
   rw[List.length_nil] at hGl
   subst hGl
   clear hG
   go_wp2_with (first|(go_at_call 15;refine (HTK.out _ (keep_trans fB hcur)).mono ?_;rintro _ w1 ⟨rfl,hb1⟩;replace hcur:=keep_trans hcur hb1;replace x0:=q_cell (keepq hcur HQ1.out) 0;replace x1:=q_cell (keepq hcur HQ1.out) 1;replace x2:=q_cell (keepq hcur HQ1.out) 2;replace x3:=q_cell (keepq hcur HQ1.out) 3;replace xl:=q_lt (keepq hcur HQ1.out);replace y0:=q_cell (keepq hcur HQ0.out) 0;replace y1:=q_cell (keepq hcur HQ0.out) 1;replace y2:=q_cell (keepq hcur HQ0.out) 2;replace y3:=q_cell (keepq hcur HQ0.out) 3;replace yl:=q_lt (keepq hcur HQ0.out))|(go_at_call 16;refine (HOP.out _ (keep_trans fB hcur)).mono ?_;rintro _ w1 ⟨vo,rfl,howno,hb1⟩;obtain ⟨ao,co,rfl⟩:=owns_shape howno;clear howno;replace hcur:=keep_trans hcur hb1;replace x0:=q_cell (keepq hcur HQ1.out) 0;replace x1:=q_cell (keepq hcur HQ1.out) 1;replace x2:=q_cell (keepq hcur HQ1.out) 2;replace x3:=q_cell (keepq hcur HQ1.out) 3;replace xl:=q_lt (keepq hcur HQ1.out);replace y0:=q_cell (keepq hcur HQ0.out) 0;replace y1:=q_cell (keepq hcur HQ0.out) 1;replace y2:=q_cell (keepq hcur HQ0.out) 2;replace y3:=q_cell (keepq hcur HQ0.out) 3;replace yl:=q_lt (keepq hcur HQ0.out))|(go_at_call 17;refine (HA.out _).mono ?_;rintro _ w1 ⟨rfl,hb1⟩;replace hcur:=keep_trans hcur hb1))
   go_ret
   exact ⟨rfl,keep_trans fB hcur⟩
end
end Go.Proofs.YtcblpobiefmjmaaGreat
