/- Texts Q6 to Q6 of this proof, in one file. -/
import Derived.Test.YtcblpobiefmjmaaGreatW11
import Derived.Test.YtcblpobiefmjmaaGreatW20
import Derived.Test.YtcblpobiefmjmaaGreatW46
namespace Go.Proofs.YtcblpobiefmjmaaGreat
set_option maxRecDepth 100000
set_option maxHeartbeats 16000000
section
open Go Go.RowKit
attribute [local go_sem] over_cell
attribute [local go_sem] Oper.semAt_some
theorem q3 {w:World} {b:Nat} {v0 v1 v2:Value} {T:TypeId} (h:w.heap[b]?=some (.cells #[v0,v1,v2] T (0,0))):w.cell? ⟨b,0,none⟩=some v0∧w.cell? ⟨b,1,none⟩=some v1∧w.cell? ⟨b,2,none⟩=some v2∧b<w.heap.size:=⟨q_cell h 0,q_cell h 1,q_cell h 2,q_lt h⟩
theorem q4 {w:World} {b:Nat} {v0 v1 v2 v3:Value} {T:TypeId} (h:w.heap[b]?=some (.cells #[v0,v1,v2,v3] T (0,0))):w.cell? ⟨b,0,none⟩=some v0∧w.cell? ⟨b,1,none⟩=some v1∧w.cell? ⟨b,2,none⟩=some v2∧w.cell? ⟨b,3,none⟩=some v3∧b<w.heap.size:=⟨q_cell h 0,q_cell h 1,q_cell h 2,q_cell h 3,q_lt h⟩
theorem IC.nil0 (a:Option Addr) (w:World):IC w a 0 []:=⟨⟨rfl,by omega⟩,fun k hk=>absurd hk (Nat.not_lt_zero _)⟩
theorem fsearch_c (a:Option Addr) (n c:Nat) (ls:List (List Int)) (cells sum:Int) (a':Option Addr) (n' c':Nat) (g:List Int) (ap:Option Addr) (np cp:Nat) (P:List Int) (tt:Int) (d:Bool) (B:Int) (w:World) (h:RC w a n ls) (hcap:n≤c) (h':IC w a' n' g) (hcap':n'≤c') (hP:IC w ap np P) (hcp:np≤cp) (ht1 : -9223372036854775808≤tt) (ht2:tt≤9223372036854775807) (hB1 : -9223372036854775808≤B) (hB2:B≤9223372036854775807) :
  Calls Tryz.prog 9 #[.agg #[.int .i64 cells,.slice a n c,.int .i64 sum,.slice a' n' c'],.agg #[.slice ap np cp,.int .i64 tt,.bool d],.int .i64 B] w fun e w'=>e = .returned (.bool true)∧Below w.heap.size w w':=by
 have HA:=Lib.hid awake_c
 have HSH:=Lib.hid (fun w1 (hb:Below w.heap.size w w1)=>short6_c a n c ls cells sum a' n' c' g 40 w1 (h.mono hb) (h'.mono hb))
 have HTK:=Lib.hid (fun w1 (hb:Below w.heap.size w w1)=>rtask_c a n c ls cells sum a' n' c' g w1 (h.mono hb) hcap (h'.mono hb) hcap')
 have HOP:=Lib.hid (fun w1 (hb:Below w.heap.size w w1)=>ropen_c (.slice a n c) cells sum a' n' c' g w1 (h'.mono hb))
 have HBG:=Lib.hid (fun w1 (hb:Below w.heap.size w w1)=>begin_c a n c ls cells sum a' n' c' g w1 (h.mono hb) hcap (h'.mono hb) hcap')
 have HKS:=Lib.hid (fun w1 (hb:Below w.heap.size w w1)=>kstate_c a n c ls cells sum a' n' c' g ap np cp P tt d w1 (h.mono hb) hcap (h'.mono hb) hcap' (hP.mono hb) hcp)
 have HCN:=Lib.hid (fun w1 (hb:Below w.heap.size w w1)=>contAll_c a n c ls cells sum a' n' c' g ap np cp P tt d B w1 (h.mono hb) hcap (h'.mono hb) hcap' (hP.mono hb) hcp hB1 hB2)
 have HRE:=Lib.hid (fun w1 (hb:Below w.heap.size w w1)=>frest_c a n c ls cells sum a' n' c' g ap np cp P tt d w1 (h.mono hb) hcap (h'.mono hb) hcap' (hP.mono hb) hcp)
 have HRS:=Lib.hid (fun (G:GoodTask cells ls sum g) w1 (hb:Below w.heap.size w w1)=>rcstate_c G a n c a' n' c' ap np cp P tt d w1 (h.mono hb) (h'.mono hb) (hP.mono hb) hcp)
 have HRR:=Lib.hid (fun (G:GoodTask cells ls sum g) (hk:OkG g P) (h0:0≤tt) (h1:tt≤999999999) (h6:(openL g).length≤6) w1 (hb:Below w.heap.size w w1)=>rrest_c G a n c a' n' c' ap np cp P tt d 1000 (257 ^ (openL g).length) w1 (h.mono hb) (h'.mono hb) (hP.mono hb) hcp hk h0 rfl (by
  have h2:257 ^ (openL g).length≤257 ^ 6:=Nat.pow_le_pow_right (by decide) h6
  have h3:(257:Nat) ^ 6=288136807515649:=by decide
  omega) (by decide) (by decide))
 have HRN:=Lib.hid (fun (G:GoodTask cells ls sum g) (hk:OkG g P) (h0:0≤tt) (h1:tt≤999999999) (b:Nat) (hb0:b≤1000000) w1 (hb:Below w.heap.size w w1)=>rcont_c G a n c a' n' c' ap np cp P tt d b w1 (h.mono hb) (h'.mono hb) (hP.mono hb) hcp hk h0 (by omega) (by omega))
 have HGT:Hid (taskErr cells ls sum g=0→GoodTask cells ls sum g):=goodTask
 have HGL:Hid (taskErr cells ls sum g=0→n'≤256∧0<n'):=fun e=>by have:=(goodTask e).len;have:=(goodTask e).cells2;have:=(goodTask e).cells1;have:=h'.len;omega
 have hBAD:Hid (¬taskErr cells ls sum g=0→contSt cells ls sum g P tt d B=([],0,false)∧contFd cells ls sum g P tt d B=[]∧contEr cells ls sum g P tt d B=taskErr cells ls sum g∧frestX cells ls sum g P tt d=taskErr cells ls sum g∧frestL cells ls sum g P tt d=[]):=fun e=>by
  have h1:=state_bad (P:=P) (t:=tt) (d:=d) e
  have h2:contEr cells ls sum g P tt d B=taskErr cells ls sum g:=by unfold contEr;rw[if_pos (by rw[h1];exact e),h1]
  have h3:=rest_bad (P:=P) (t:=tt) (d:=d) (by rw[h1];exact e)
  rw[h1] at h3
  exact ⟨by unfold contSt;rw[if_pos (by rw[h2];exact e)],by unfold contFd;rw[if_pos (by rw[h2];exact e)],h2,h3⟩
 have hKB:Hid (¬taskErr cells ls sum g=0→stateE cells ls sum g P tt d=taskErr cells ls sum g):=state_bad
 have hSE:Hid (taskErr cells ls sum g=0→stateErr ls sum g P tt d=stateE cells ls sum g P tt d):=fun e=>(state_te e).symm
 have hSB:Hid (¬stateE cells ls sum g P tt d=0→contSt cells ls sum g P tt d B=([],0,false)∧contFd cells ls sum g P tt d B=[]∧contEr cells ls sum g P tt d B=stateE cells ls sum g P tt d∧frestX cells ls sum g P tt d=stateE cells ls sum g P tt d∧frestL cells ls sum g P tt d=[]):=fun e=>by
  have h2:contEr cells ls sum g P tt d B=stateE cells ls sum g P tt d:=by unfold contEr;rw[if_pos e]
  exact ⟨by unfold contSt;rw[if_pos (by rw[h2];exact e)],by unfold contFd;rw[if_pos (by rw[h2];exact e)],h2,rest_bad e⟩
 have hCE:Hid (stateE cells ls sum g P tt d=0→contEr cells ls sum g P tt d B=if B<0∨1000000<B then 3 else if 999999999<tt+B then 4 else 0):=fun e=>by unfold contEr;rw[if_neg (by rw[e];decide)]
 have hCV:Hid (¬contEr cells ls sum g P tt d B=0→contSt cells ls sum g P tt d B=([],0,false)∧contFd cells ls sum g P tt d B=[]):=fun e=>⟨by unfold contSt;rw[if_pos e],by unfold contFd;rw[if_pos e]⟩
 have hCO:Hid (contEr cells ls sum g P tt d B=0→contR ls sum g B.toNat (P,tt,d)=(contSt cells ls sum g P tt d B,contFd cells ls sum g P tt d B)):=fun e=>by unfold contSt contFd;rw[if_neg (by rw[e];decide),if_neg (by rw[e];decide)]
 have hST:Hid (stateErr ls sum g P tt d=0→OkG g P∧Rch (plC ls sum g) P∧(d=true→P=[])∧0≤tt∧tt≤999999999):=good_state
 have hRB:Hid (stateE cells ls sum g P tt d=0→16<(openL g).length→frestX cells ls sum g P tt d=20∧frestL cells ls sum g P tt d=[]):=fun h1 h2=>rest_big h1 h2
 have hR2:Hid (GoodTask cells ls sum g→stateE cells ls sum g P tt d=0→OkG g P→Rch (plC ls sum g) P→(openL g).length≤16→(frestX cells ls sum g P tt d=5∧frestL cells ls sum g P tt d=[]∧256<(restR ls sum g 1000 (257 ^ (openL g).length) (P,tt,d) []).length)∨(frestX cells ls sum g P tt d=0∧frestL cells ls sum g P tt d=restR ls sum g 1000 (257 ^ (openL g).length) (P,tt,d) []∧(restR ls sum g 1000 (257 ^ (openL g).length) (P,tt,d) []).length≤256)):=fun G h1 h2 h3 h4=>rest_two G h1 h2 h3 h4
 have hRL:Hid (GoodTask cells ls sum g→OkG g P→Rch (plC ls sum g) P→∀l,l∈restR ls sum g 1000 (257 ^ (openL g).length) (P,tt,d) []→l.length=n'):=fun G h1 h2 l hl=>by rw[rest_len G h1 h2 hl];exact h'.len
 have hFL:Hid (GoodTask cells ls sum g→OkG g P→Rch (plC ls sum g) P→(d=true→P=[])→∀l,l∈(contR ls sum g B.toNat (P,tt,d)).2→l.length=n'):=fun G h1 h2 h3 l hl=>by rw[cont_len G _ ⟨h1,h2,h3⟩ hl];exact h'.len
 have hps:=hP.small
 clear h h' hP
 generalize contSt cells ls sum g P tt d B=S at HCN hBAD hSB hCV hCO
 generalize contFd cells ls sum g P tt d B=FL at HCN hBAD hSB hCV hCO
 generalize contEr cells ls sum g P tt d B=ce at HCN hBAD hSB hCE hCV hCO
 generalize frestX cells ls sum g P tt d=RX at HRE hBAD hSB hRB hR2
 generalize frestL cells ls sum g P tt d=ML at HRE hBAD hSB hRB hR2
 generalize stateE cells ls sum g P tt d=se at HKS hKB hSE hSB hCE hRB hR2
 generalize stateErr ls sum g P tt d=sr at HRS hSE hST
 generalize taskErr cells ls sum g=te at HTK HBG HGT HGL hBAD hKB hSE
 generalize short6B 40 ls g=sb at HSH
 generalize restR ls sum g 1000 (257 ^ (openL g).length) (P,tt,d) []=RR at HRR hR2 hRL
 go_enter Tryz.func9,Tryz.ntmps9
 go_upto_region 2 with fail
 have fsz:(((w.alloc (.cells #[.int .i64 cells,.slice a n c,.int .i64 sum,.slice a' n' c'] 27)).alloc (.cells #[.slice ap np cp,.int .i64 tt,.bool d] 68)).alloc (.cells #[.int .i64 cells,.slice a n c,.int .i64 sum,.slice a' n' c'] 28)).heap.size=w.heap.size+3:=by simp only[World.size_alloc] <;> omega
 have fB:Below w.heap.size w (((w.alloc (.cells #[.int .i64 cells,.slice a n c,.int .i64 sum,.slice a' n' c'] 27)).alloc (.cells #[.slice ap np cp,.int .i64 tt,.bool d] 68)).alloc (.cells #[.int .i64 cells,.slice a n c,.int .i64 sum,.slice a' n' c'] 28)):=(((Below.refl _ _).alloc (Nat.le_refl _) _).alloc (by simp only[World.size_alloc];omega) _).alloc (by simp only[World.size_alloc];omega) _
 have fq0:(((w.alloc (.cells #[.int .i64 cells,.slice a n c,.int .i64 sum,.slice a' n' c'] 27)).alloc (.cells #[.slice ap np cp,.int .i64 tt,.bool d] 68)).alloc (.cells #[.int .i64 cells,.slice a n c,.int .i64 sum,.slice a' n' c'] 28)).heap[w.heap.size]?=some (.cells #[.int .i64 cells,.slice a n c,.int .i64 sum,.slice a' n' c'] 27 (0,0)):=by have h:=World.alloc_heap_new w (.cells #[.int .i64 cells,.slice a n c,.int .i64 sum,.slice a' n' c'] 27);exact (Below.heap_alloc _ _ _ (by simp only[World.size_alloc];omega)).trans ((Below.heap_alloc _ _ _ (by simp only[World.size_alloc];omega)).trans (h))
 have fq1:(((w.alloc (.cells #[.int .i64 cells,.slice a n c,.int .i64 sum,.slice a' n' c'] 27)).alloc (.cells #[.slice ap np cp,.int .i64 tt,.bool d] 68)).alloc (.cells #[.int .i64 cells,.slice a n c,.int .i64 sum,.slice a' n' c'] 28)).heap[w.heap.size+1]?=some (.cells #[.slice ap np cp,.int .i64 tt,.bool d] 68 (0,0)):=by have h:=World.alloc_heap_new (w.alloc (.cells #[.int .i64 cells,.slice a n c,.int .i64 sum,.slice a' n' c'] 27)) (.cells #[.slice ap np cp,.int .i64 tt,.bool d] 68);simp only[World.size_alloc] at h;exact (Below.heap_alloc _ _ _ (by simp only[World.size_alloc];omega)).trans (h)
 have fq2:(((w.alloc (.cells #[.int .i64 cells,.slice a n c,.int .i64 sum,.slice a' n' c'] 27)).alloc (.cells #[.slice ap np cp,.int .i64 tt,.bool d] 68)).alloc (.cells #[.int .i64 cells,.slice a n c,.int .i64 sum,.slice a' n' c'] 28)).heap[w.heap.size+1+1]?=some (.cells #[.int .i64 cells,.slice a n c,.int .i64 sum,.slice a' n' c'] 28 (0,0)):=by have h:=World.alloc_heap_new ((w.alloc (.cells #[.int .i64 cells,.slice a n c,.int .i64 sum,.slice a' n' c'] 27)).alloc (.cells #[.slice ap np cp,.int .i64 tt,.bool d] 68)) (.cells #[.int .i64 cells,.slice a n c,.int .i64 sum,.slice a' n' c'] 28);simp only[World.size_alloc] at h;exact h
 generalize (((w.alloc (.cells #[.int .i64 cells,.slice a n c,.int .i64 sum,.slice a' n' c'] 27)).alloc (.cells #[.slice ap np cp,.int .i64 tt,.bool d] 68)).alloc (.cells #[.int .i64 cells,.slice a n c,.int .i64 sum,.slice a' n' c'] 28))=W0 at fsz fB fq0 fq1 fq2 ⊢
 have HY:=Lib.hid (fun W (hb:Below W0.heap.size W0 W)=>q4 (keepq hb fq0))
 have HZ:=Lib.hid (fun W (hb:Below W0.heap.size W0 W)=>q3 (keepq hb fq1))
 have HX:=Lib.hid (fun W (hb:Below W0.heap.size W0 W)=>q4 (keepq hb fq2))
 have hcur:Below W0.heap.size W0 W0:=Below.refl _ _
 obtain ⟨y0,y1,y2,y3,yl⟩:=HY.out _ hcur
 obtain ⟨z0,z1,z2,zl⟩:=HZ.out _ hcur
 obtain ⟨x0,x1,x2,x3,xl⟩:=HX.out _ hcur
 clear fq0 fq1 fq2 fsz
 cases sb with
 | false =>
  go_wp2_with (first|(go_at_call 14;refine (HSH.out _ (keep_trans fB hcur)).mono ?_;rintro _ w1 ⟨rfl,hb1⟩;replace hcur:=keep_trans hcur hb1;clear y0 y1 y2 y3 yl;obtain ⟨y0,y1,y2,y3,yl⟩:=HY.out _ hcur;clear z0 z1 z2 zl;obtain ⟨z0,z1,z2,zl⟩:=HZ.out _ hcur;clear x0 x1 x2 x3 xl;obtain ⟨x0,x1,x2,x3,xl⟩:=HX.out _ hcur)|(go_at_call 17;refine (HA.out _).mono ?_;rintro _ w1 ⟨rfl,hb1⟩;replace hcur:=keep_trans hcur hb1))
  go_ret
  exact ⟨rfl,keep_trans fB hcur⟩
 | true =>
  by_cases hnp:(60:Int)<(np:Int)
  ·go_wp2_with (first|(go_at_call 14;refine (HSH.out _ (keep_trans fB hcur)).mono ?_;rintro _ w1 ⟨rfl,hb1⟩;replace hcur:=keep_trans hcur hb1;clear y0 y1 y2 y3 yl;obtain ⟨y0,y1,y2,y3,yl⟩:=HY.out _ hcur;clear z0 z1 z2 zl;obtain ⟨z0,z1,z2,zl⟩:=HZ.out _ hcur;clear x0 x1 x2 x3 xl;obtain ⟨x0,x1,x2,x3,xl⟩:=HX.out _ hcur)|(go_at_call 17;refine (HA.out _).mono ?_;rintro _ w1 ⟨rfl,hb1⟩;replace hcur:=keep_trans hcur hb1))
   go_ret
   exact ⟨rfl,keep_trans fB hcur⟩
  rcases (by omega:(300<B∧B≤1000000)∨B≤300∨1000000<B) with ⟨hc1,hc2⟩|hc|hc
  ·go_wp2_with (first|(go_at_call 14;refine (HSH.out _ (keep_trans fB hcur)).mono ?_;rintro _ w1 ⟨rfl,hb1⟩;replace hcur:=keep_trans hcur hb1;clear y0 y1 y2 y3 yl;obtain ⟨y0,y1,y2,y3,yl⟩:=HY.out _ hcur;clear z0 z1 z2 zl;obtain ⟨z0,z1,z2,zl⟩:=HZ.out _ hcur;clear x0 x1 x2 x3 xl;obtain ⟨x0,x1,x2,x3,xl⟩:=HX.out _ hcur)|(go_at_call 17;refine (HA.out _).mono ?_;rintro _ w1 ⟨rfl,hb1⟩;replace hcur:=keep_trans hcur hb1))
   go_ret
   exact ⟨rfl,keep_trans fB hcur⟩
  ·have hb300:¬300<B:=by omega
   go_wp2_with (first|(go_at_call 14;refine (HSH.out _ (keep_trans fB hcur)).mono ?_;rintro _ w1 ⟨rfl,hb1⟩;replace hcur:=keep_trans hcur hb1;clear y0 y1 y2 y3 yl;obtain ⟨y0,y1,y2,y3,yl⟩:=HY.out _ hcur;clear z0 z1 z2 zl;obtain ⟨z0,z1,z2,zl⟩:=HZ.out _ hcur;clear x0 x1 x2 x3 xl;obtain ⟨x0,x1,x2,x3,xl⟩:=HX.out _ hcur))
   refine (HBG.out _ (keep_trans fB hcur)).mono ?_
   rintro _ w1 ⟨rfl,hb1⟩
   replace hcur:=keep_trans hcur hb1
   clear y0 y1 y2 y3 yl
   obtain ⟨y0,y1,y2,y3,yl⟩:=HY.out _ hcur
   clear z0 z1 z2 zl
   obtain ⟨z0,z1,z2,zl⟩:=HZ.out _ hcur
   clear x0 x1 x2 x3 xl
   obtain ⟨x0,x1,x2,x3,xl⟩:=HX.out _ hcur
   go_wp2_with fail
   have psz:(w1.alloc (.cells #[.slice none 0 0,.int .i64 0,.bool false] 68)).heap.size=w1.heap.size+1:=by simp only[World.size_alloc]
   have pB:Below w1.heap.size w1 (w1.alloc (.cells #[.slice none 0 0,.int .i64 0,.bool false] 68)):=(Below.refl _ _).alloc (Nat.le_refl _) _
   have pq0:(w1.alloc (.cells #[.slice none 0 0,.int .i64 0,.bool false] 68)).heap[w1.heap.size]?=some (.cells #[.slice none 0 0,.int .i64 0,.bool false] 68 (0,0)):=by have h:=World.alloc_heap_new w1 (.cells #[.slice none 0 0,.int .i64 0,.bool false] 68);exact h
   generalize (w1.alloc (.cells #[.slice none 0 0,.int .i64 0,.bool false] 68))=WA at psz pB pq0 ⊢
   replace hcur:=keep_trans hcur pB
   clear y0 y1 y2 y3 yl
   obtain ⟨y0,y1,y2,y3,yl⟩:=HY.out _ hcur
   clear z0 z1 z2 zl
   obtain ⟨z0,z1,z2,zl⟩:=HZ.out _ hcur
   clear x0 x1 x2 x3 xl
   obtain ⟨x0,x1,x2,x3,xl⟩:=HX.out _ hcur
   have HSA:=Lib.hid pq0
   obtain ⟨a0,a1,a2,al⟩:=q3 pq0
   clear psz pq0 pB hb1
   by_cases ht:te=0
   ·subst ht
    have G:=HGT.out rfl
    have HM:=Lib.hid (HGL.out rfl)
    have HRS:=Lib.hid (HRS.out G)
    have HRR:=Lib.hid (HRR.out G)
    have HRN:=Lib.hid (HRN.out G)
    have hR2:=Lib.hid (hR2.out G)
    have hRL:=Lib.hid (hRL.out G)
    have hFL:=Lib.hid (hFL.out G)
    have hss:sr=se:=hSE.out rfl
    subst hss
    have HES:=Lib.hid (fun W=>samest_c none 0 0 [] 0 false none 0 0 [] 0 false W (IC.nil0 none W) (IC.nil0 none W))
    rw[show sameSt [] [] 0 0 false false=true from by decide] at HES
    clear HGT HGL hBAD hKB hSE
    by_cases h6:(openL g).length≤6
    ·have o6:¬(6:Int)<((openL g).length:Int):=by omega
     have o16:¬(16:Int)<((openL g).length:Int):=by omega
     clear hRB
     go_wp2_with (first|(go_at_call 14;refine (HSH.out _ (keep_trans fB hcur)).mono ?_;rintro _ w1 ⟨rfl,hb1⟩;replace hcur:=keep_trans hcur hb1;replace HSA:=Lib.hid (keepq hb1 HSA.out);clear a0 a1 a2 al;obtain ⟨a0,a1,a2,al⟩:=q3 HSA.out;clear y0 y1 y2 y3 yl;obtain ⟨y0,y1,y2,y3,yl⟩:=HY.out _ hcur;clear z0 z1 z2 zl;obtain ⟨z0,z1,z2,zl⟩:=HZ.out _ hcur;clear x0 x1 x2 x3 xl;obtain ⟨x0,x1,x2,x3,xl⟩:=HX.out _ hcur)|(go_at_call 15;refine (HTK.out _ (keep_trans fB hcur)).mono ?_;rintro _ w1 ⟨rfl,hb1⟩;replace hcur:=keep_trans hcur hb1;replace HSA:=Lib.hid (keepq hb1 HSA.out);clear a0 a1 a2 al;obtain ⟨a0,a1,a2,al⟩:=q3 HSA.out;clear y0 y1 y2 y3 yl;obtain ⟨y0,y1,y2,y3,yl⟩:=HY.out _ hcur;clear z0 z1 z2 zl;obtain ⟨z0,z1,z2,zl⟩:=HZ.out _ hcur;clear x0 x1 x2 x3 xl;obtain ⟨x0,x1,x2,x3,xl⟩:=HX.out _ hcur)|(go_at_call 38;refine (HKS.out _ (keep_trans fB hcur)).mono ?_;rintro _ w1 ⟨rfl,hb1⟩;replace hcur:=keep_trans hcur hb1;replace HSA:=Lib.hid (keepq hb1 HSA.out);clear a0 a1 a2 al;obtain ⟨a0,a1,a2,al⟩:=q3 HSA.out;clear y0 y1 y2 y3 yl;obtain ⟨y0,y1,y2,y3,yl⟩:=HY.out _ hcur;clear z0 z1 z2 zl;obtain ⟨z0,z1,z2,zl⟩:=HZ.out _ hcur;clear x0 x1 x2 x3 xl;obtain ⟨x0,x1,x2,x3,xl⟩:=HX.out _ hcur)|(go_at_call 42;refine (HRS.out _ (keep_trans fB hcur)).mono ?_;rintro _ w1 ⟨rfl,hb1⟩;replace hcur:=keep_trans hcur hb1;replace HSA:=Lib.hid (keepq hb1 HSA.out);clear a0 a1 a2 al;obtain ⟨a0,a1,a2,al⟩:=q3 HSA.out;clear y0 y1 y2 y3 yl;obtain ⟨y0,y1,y2,y3,yl⟩:=HY.out _ hcur;clear z0 z1 z2 zl;obtain ⟨z0,z1,z2,zl⟩:=HZ.out _ hcur;clear x0 x1 x2 x3 xl;obtain ⟨x0,x1,x2,x3,xl⟩:=HX.out _ hcur)|(go_at_call 16;refine (HOP.out _ (keep_trans fB hcur)).mono ?_;rintro _ w1 ⟨vo,rfl,howno,hb1⟩;obtain ⟨ao,co,rfl⟩:=owns_shape howno;clear howno;replace hcur:=keep_trans hcur hb1;replace HSA:=Lib.hid (keepq hb1 HSA.out);clear a0 a1 a2 al;obtain ⟨a0,a1,a2,al⟩:=q3 HSA.out;clear y0 y1 y2 y3 yl;obtain ⟨y0,y1,y2,y3,yl⟩:=HY.out _ hcur;clear z0 z1 z2 zl;obtain ⟨z0,z1,z2,zl⟩:=HZ.out _ hcur;clear x0 x1 x2 x3 xl;obtain ⟨x0,x1,x2,x3,xl⟩:=HX.out _ hcur)|(go_at_call 41;refine (HES.out _).mono ?_;rintro _ w1 ⟨rfl,hb1⟩;replace hcur:=keep_trans hcur hb1;replace HSA:=Lib.hid (keepq hb1 HSA.out);clear a0 a1 a2 al;obtain ⟨a0,a1,a2,al⟩:=q3 HSA.out;clear y0 y1 y2 y3 yl;obtain ⟨y0,y1,y2,y3,yl⟩:=HY.out _ hcur;clear z0 z1 z2 zl;obtain ⟨z0,z1,z2,zl⟩:=HZ.out _ hcur;clear x0 x1 x2 x3 xl;obtain ⟨x0,x1,x2,x3,xl⟩:=HX.out _ hcur))
     clear a0 a1 a2 al HSA
     refine (HCN.out _ (keep_trans fB hcur)).mono ?_
     rintro _ w1 ⟨ar,nr,cr,af,nf,cf,rfl,hIS,hcr,hRF,hcf,hb1⟩
     replace hcur:=keep_trans hcur hb1
     clear y0 y1 y2 y3 yl
     obtain ⟨y0,y1,y2,y3,yl⟩:=HY.out _ hcur
     clear z0 z1 z2 zl
     obtain ⟨z0,z1,z2,zl⟩:=HZ.out _ hcur
     clear x0 x1 x2 x3 xl
     obtain ⟨x0,x1,x2,x3,xl⟩:=HX.out _ hcur
     go_wp2_with fail
     have psz:(w1.alloc (.cells #[.slice ar nr cr,.int .i64 S.2.1,.bool S.2.2] 68)).heap.size=w1.heap.size+1:=by simp only[World.size_alloc]
     have pB:Below w1.heap.size w1 (w1.alloc (.cells #[.slice ar nr cr,.int .i64 S.2.1,.bool S.2.2] 68)):=(Below.refl _ _).alloc (Nat.le_refl _) _
     have pq0:(w1.alloc (.cells #[.slice ar nr cr,.int .i64 S.2.1,.bool S.2.2] 68)).heap[w1.heap.size]?=some (.cells #[.slice ar nr cr,.int .i64 S.2.1,.bool S.2.2] 68 (0,0)):=by have h:=World.alloc_heap_new w1 (.cells #[.slice ar nr cr,.int .i64 S.2.1,.bool S.2.2] 68);exact h
     generalize (w1.alloc (.cells #[.slice ar nr cr,.int .i64 S.2.1,.bool S.2.2] 68))=WB at psz pB pq0 ⊢
     replace hcur:=keep_trans hcur pB
     clear y0 y1 y2 y3 yl
     obtain ⟨y0,y1,y2,y3,yl⟩:=HY.out _ hcur
     clear z0 z1 z2 zl
     obtain ⟨z0,z1,z2,zl⟩:=HZ.out _ hcur
     clear x0 x1 x2 x3 xl
     obtain ⟨x0,x1,x2,x3,xl⟩:=HX.out _ hcur
     have hb1':=pB
     have HSB:=Lib.hid pq0
     have HIS:=Lib.hid (hIS.mono pB)
     have HRF:=Lib.hid (hRF.mono pB)
     have hcB:Below WB.heap.size WB WB:=Below.refl _ _
     clear psz pq0 hIS hRF pB hb1 hb1'
     refine (HRE.out _ (keep_trans fB hcur)).mono ?_
     rintro _ w1 ⟨am,nm,cm,rfl,hRM,hcm,hb1⟩
     replace hcur:=keep_trans hcur hb1
     replace hcB:=keep_trans hcB hb1
     have HRM:=Lib.hid hRM
     clear hRM
     clear z0 z1 z2 zl
     obtain ⟨z0,z1,z2,zl⟩:=HZ.out _ hcur
     clear x0 x1 x2 x3 xl
     obtain ⟨x0,x1,x2,x3,xl⟩:=HX.out _ hcur
     clear y0 y1 y2 y3 yl hb1
     by_cases hs:sr=0
     ·subst hs
      obtain ⟨hk,hr,hdn,ht0,ht3⟩:=hST.out rfl
      have HRR:=Lib.hid (HRR.out hk ht0 ht3 h6)
      have HRN:=Lib.hid (HRN.out hk ht0 ht3)
      have HLR:=Lib.hid (hRL.out hk hr)
      have HLF:=Lib.hid (hFL.out hk hr hdn)
      have hCE:=Lib.hid (hCE.out rfl)
      rcases hR2.out rfl hk hr (by omega) with ⟨e1,e2,hl6⟩|⟨e1,e2,hl6⟩
      ·subst e1;subst e2
       have HL6:=Lib.hid hl6
       clear hSB hST hR2 hRL hFL hk hr hdn hl6 HRE HCN
       by_cases bn:B<0
       ·have hce:ce=3:=by rw[hCE.out,if_pos (.inl bn)]
        obtain ⟨e1,e2⟩:=hCV.out (by rw[hce];decide)
        subst hce
        subst e1;subst e2
        clear hCE hCV hCO HRN HLF
        go_wp2_with (first|(go_at_call 42;refine (HRS.out _ (keep_trans fB hcur)).mono ?_;rintro _ w1 ⟨rfl,hb1⟩;replace hcur:=keep_trans hcur hb1;replace hcB:=keep_trans hcB hb1;replace HRM:=Lib.hid (HRM.out.mono hb1);clear z0 z1 z2 zl;obtain ⟨z0,z1,z2,zl⟩:=HZ.out _ hcur;clear x0 x1 x2 x3 xl;obtain ⟨x0,x1,x2,x3,xl⟩:=HX.out _ hcur)|(go_at_call 16;refine (HOP.out _ (keep_trans fB hcur)).mono ?_;rintro _ w1 ⟨vo,rfl,howno,hb1⟩;obtain ⟨ao,co,rfl⟩:=owns_shape howno;clear howno;replace hcur:=keep_trans hcur hb1;replace hcB:=keep_trans hcB hb1;replace HRM:=Lib.hid (HRM.out.mono hb1);clear z0 z1 z2 zl;obtain ⟨z0,z1,z2,zl⟩:=HZ.out _ hcur;clear x0 x1 x2 x3 xl;obtain ⟨x0,x1,x2,x3,xl⟩:=HX.out _ hcur))
        refine (HRR.out _ (keep_trans fB hcur)).mono ?_
        rintro _ w1 ⟨⟨vf,pre,rfl,hr,hall,hpl⟩,hb1⟩
        obtain ⟨a9,cs,e,hrc,hcs⟩:=hr.rc (by omega) (hr.short hall (fun l hl=>by have h1:=HLR.out l hl;have h2:=HM.out.1;omega))
        subst e
        have hpn:=congrArg List.length hall
        rw[List.length_map] at hpn
        rw[hall] at hrc
        replace hcur:=keep_trans hcur hb1
        replace hcB:=keep_trans hcB hb1
        replace HRM:=Lib.hid (HRM.out.mono hb1)
        have HRC:=Lib.hid hrc
        clear hr hall hrc
        clear z0 z1 z2 zl
        obtain ⟨z0,z1,z2,zl⟩:=HZ.out _ hcur
        clear x0 x1 x2 x3 xl
        obtain ⟨x0,x1,x2,x3,xl⟩:=HX.out _ hcur
        have hbig:(256:Int)<(pre.length:Int):=by have:=HL6.out;omega
        generalize pre.length=N at hbig HRC hcs hpl hpn ⊢
        clear HRC hpl hpn
        have HTB:=Lib.hid (fun W (h1:RC W am nm [])=>table_c am none nm 0 cm 0 [] [] W h1 (RC.none W))
        rw[sameT_refl] at HTB
        have h0:=HIS.out.len
        rw[List.length_nil] at h0
        subst h0
        have h0:=HRF.out.len
        rw[List.length_nil] at h0
        subst h0
        have HEB:=Lib.hid (fun W=>samest_c ar 0 cr [] 0 false none 0 0 [] 0 false W (IC.nil0 ar W) (IC.nil0 none W))
        rw[show sameSt [] [] 0 0 false false=true from by decide] at HEB
        go_wp2_with (first|(go_at_call 28;refine (HTB.out _ HRM.out).mono ?_;rintro _ w1 ⟨rfl,hb1⟩;replace hcur:=keep_trans hcur hb1;replace hcB:=keep_trans hcB hb1;obtain ⟨b0,b1,b2,bl⟩:=q3 (keepq hcB HSB.out))|(go_at_call 41;refine (HEB.out _).mono ?_;rintro _ w1 ⟨rfl,hb1⟩;replace hcur:=keep_trans hcur hb1)|(go_at_call 17;refine (HA.out _).mono ?_;rintro _ w1 ⟨rfl,hb1⟩;replace hcur:=keep_trans hcur hb1))
        go_ret
        exact ⟨rfl,keep_trans fB hcur⟩
       ·have bg1:¬B<0:=bn
        have bg2:¬1000000<B:=by omega
        by_cases bl:999999999<tt+B
        ·have hce:ce=4:=by rw[hCE.out,if_neg (by omega),if_pos bl]
         obtain ⟨e1,e2⟩:=hCV.out (by rw[hce];decide)
         subst hce
         subst e1;subst e2
         clear hCE hCV hCO HRN HLF
         go_wp2_with (first|(go_at_call 42;refine (HRS.out _ (keep_trans fB hcur)).mono ?_;rintro _ w1 ⟨rfl,hb1⟩;replace hcur:=keep_trans hcur hb1;replace hcB:=keep_trans hcB hb1;replace HRM:=Lib.hid (HRM.out.mono hb1);clear z0 z1 z2 zl;obtain ⟨z0,z1,z2,zl⟩:=HZ.out _ hcur;clear x0 x1 x2 x3 xl;obtain ⟨x0,x1,x2,x3,xl⟩:=HX.out _ hcur)|(go_at_call 16;refine (HOP.out _ (keep_trans fB hcur)).mono ?_;rintro _ w1 ⟨vo,rfl,howno,hb1⟩;obtain ⟨ao,co,rfl⟩:=owns_shape howno;clear howno;replace hcur:=keep_trans hcur hb1;replace hcB:=keep_trans hcB hb1;replace HRM:=Lib.hid (HRM.out.mono hb1);clear z0 z1 z2 zl;obtain ⟨z0,z1,z2,zl⟩:=HZ.out _ hcur;clear x0 x1 x2 x3 xl;obtain ⟨x0,x1,x2,x3,xl⟩:=HX.out _ hcur))
         refine (HRR.out _ (keep_trans fB hcur)).mono ?_
         rintro _ w1 ⟨⟨vf,pre,rfl,hr,hall,hpl⟩,hb1⟩
         obtain ⟨a9,cs,e,hrc,hcs⟩:=hr.rc (by omega) (hr.short hall (fun l hl=>by have h1:=HLR.out l hl;have h2:=HM.out.1;omega))
         subst e
         have hpn:=congrArg List.length hall
         rw[List.length_map] at hpn
         rw[hall] at hrc
         replace hcur:=keep_trans hcur hb1
         replace hcB:=keep_trans hcB hb1
         replace HRM:=Lib.hid (HRM.out.mono hb1)
         have HRC:=Lib.hid hrc
         clear hr hall hrc
         clear z0 z1 z2 zl
         obtain ⟨z0,z1,z2,zl⟩:=HZ.out _ hcur
         clear x0 x1 x2 x3 xl
         obtain ⟨x0,x1,x2,x3,xl⟩:=HX.out _ hcur
         have hbig:(256:Int)<(pre.length:Int):=by have:=HL6.out;omega
         generalize pre.length=N at hbig HRC hcs hpl hpn ⊢
         clear HRC hpl hpn
         have HTB:=Lib.hid (fun W (h1:RC W am nm [])=>table_c am none nm 0 cm 0 [] [] W h1 (RC.none W))
         rw[sameT_refl] at HTB
         have h0:=HIS.out.len
         rw[List.length_nil] at h0
         subst h0
         have h0:=HRF.out.len
         rw[List.length_nil] at h0
         subst h0
         have HEB:=Lib.hid (fun W=>samest_c ar 0 cr [] 0 false none 0 0 [] 0 false W (IC.nil0 ar W) (IC.nil0 none W))
         rw[show sameSt [] [] 0 0 false false=true from by decide] at HEB
         go_wp2_with (first|(go_at_call 28;refine (HTB.out _ HRM.out).mono ?_;rintro _ w1 ⟨rfl,hb1⟩;replace hcur:=keep_trans hcur hb1;replace hcB:=keep_trans hcB hb1;obtain ⟨b0,b1,b2,bl⟩:=q3 (keepq hcB HSB.out))|(go_at_call 41;refine (HEB.out _).mono ?_;rintro _ w1 ⟨rfl,hb1⟩;replace hcur:=keep_trans hcur hb1)|(go_at_call 17;refine (HA.out _).mono ?_;rintro _ w1 ⟨rfl,hb1⟩;replace hcur:=keep_trans hcur hb1))
         go_ret
         exact ⟨rfl,keep_trans fB hcur⟩
        ·have hce:ce=0:=by rw[hCE.out,if_neg (by omega),if_neg bl]
         subst hce
         obtain ⟨b,rfl⟩:∃b:Nat,B=(b:Int):=⟨B.toNat,by omega⟩
         have HRN:=Lib.hid (HRN.out b (by omega))
         have hco:=hCO.out rfl
         rw[Int.toNat_natCast] at hco HLF
         rw[hco] at HRN HLF
         clear hCE hCV hCO hco
         go_wp2_with (first|(go_at_call 42;refine (HRS.out _ (keep_trans fB hcur)).mono ?_;rintro _ w1 ⟨rfl,hb1⟩;replace hcur:=keep_trans hcur hb1;replace hcB:=keep_trans hcB hb1;replace HRM:=Lib.hid (HRM.out.mono hb1);clear z0 z1 z2 zl;obtain ⟨z0,z1,z2,zl⟩:=HZ.out _ hcur;clear x0 x1 x2 x3 xl;obtain ⟨x0,x1,x2,x3,xl⟩:=HX.out _ hcur)|(go_at_call 16;refine (HOP.out _ (keep_trans fB hcur)).mono ?_;rintro _ w1 ⟨vo,rfl,howno,hb1⟩;obtain ⟨ao,co,rfl⟩:=owns_shape howno;clear howno;replace hcur:=keep_trans hcur hb1;replace hcB:=keep_trans hcB hb1;replace HRM:=Lib.hid (HRM.out.mono hb1);clear z0 z1 z2 zl;obtain ⟨z0,z1,z2,zl⟩:=HZ.out _ hcur;clear x0 x1 x2 x3 xl;obtain ⟨x0,x1,x2,x3,xl⟩:=HX.out _ hcur))
         refine (HRR.out _ (keep_trans fB hcur)).mono ?_
         rintro _ w1 ⟨⟨vf,pre,rfl,hr,hall,hpl⟩,hb1⟩
         obtain ⟨a9,cs,e,hrc,hcs⟩:=hr.rc (by omega) (hr.short hall (fun l hl=>by have h1:=HLR.out l hl;have h2:=HM.out.1;omega))
         subst e
         have hpn:=congrArg List.length hall
         rw[List.length_map] at hpn
         rw[hall] at hrc
         replace hcur:=keep_trans hcur hb1
         replace hcB:=keep_trans hcB hb1
         replace HRM:=Lib.hid (HRM.out.mono hb1)
         have HRC:=Lib.hid hrc
         clear hr hall hrc
         clear z0 z1 z2 zl
         obtain ⟨z0,z1,z2,zl⟩:=HZ.out _ hcur
         clear x0 x1 x2 x3 xl
         obtain ⟨x0,x1,x2,x3,xl⟩:=HX.out _ hcur
         have hbig:(256:Int)<(pre.length:Int):=by have:=HL6.out;omega
         generalize pre.length=N at hbig HRC hcs hpl hpn ⊢
         clear HRC hpl hpn
         have HTB:=Lib.hid (fun W (h1:RC W am nm [])=>table_c am none nm 0 cm 0 [] [] W h1 (RC.none W))
         rw[sameT_refl] at HTB
         go_wp2_with (first|(go_at_call 28;refine (HTB.out _ HRM.out).mono ?_;rintro _ w1 ⟨rfl,hb1⟩;replace hcur:=keep_trans hcur hb1;replace hcB:=keep_trans hcB hb1;clear z0 z1 z2 zl;obtain ⟨z0,z1,z2,zl⟩:=HZ.out _ hcur;clear x0 x1 x2 x3 xl;obtain ⟨x0,x1,x2,x3,xl⟩:=HX.out _ hcur))
         refine (HRN.out _ (keep_trans fB hcur)).mono ?_
         rintro _ w1 ⟨⟨an,nn,cn,vf2,pre2,rfl,hIN,hcn,hr,hall,hpl2,_⟩,hb1⟩
         obtain ⟨a8,cs8,e,hrc,hcs8⟩:=hr.rc (by omega) (hr.short hall (fun l hl=>by have h1:=HLF.out l hl;have h2:=HM.out.1;omega))
         subst e
         rw[hall] at hrc
         replace hcur:=keep_trans hcur hb1
         replace hcB:=keep_trans hcB hb1
         obtain ⟨b0,b1,b2,bl⟩:=q3 (keepq hcB HSB.out)
         clear hr hall
         go_wp2_with fail
         have psz:(w1.alloc (.cells #[.slice an nn cn,.int .i64 S.2.1,.bool S.2.2] 76)).heap.size=w1.heap.size+1:=by simp only[World.size_alloc]
         have pB:Below w1.heap.size w1 (w1.alloc (.cells #[.slice an nn cn,.int .i64 S.2.1,.bool S.2.2] 76)):=(Below.refl _ _).alloc (Nat.le_refl _) _
         have pq0:(w1.alloc (.cells #[.slice an nn cn,.int .i64 S.2.1,.bool S.2.2] 76)).heap[w1.heap.size]?=some (.cells #[.slice an nn cn,.int .i64 S.2.1,.bool S.2.2] 76 (0,0)):=by have h:=World.alloc_heap_new w1 (.cells #[.slice an nn cn,.int .i64 S.2.1,.bool S.2.2] 76);exact h
         generalize (w1.alloc (.cells #[.slice an nn cn,.int .i64 S.2.1,.bool S.2.2] 76))=WN at psz pB pq0 ⊢
         replace hcur:=keep_trans hcur pB
         replace hcB:=keep_trans hcB pB
         have HIN:=Lib.hid (hIN.mono pB)
         have HRN2:=Lib.hid (hrc.mono pB)
         clear psz pq0 pB hb1 hIN hrc b0 b1 b2 bl
         have HEB:=Lib.hid (samest_c ar nr cr S.1 S.2.1 S.2.2 an nn cn S.1 S.2.1 S.2.2 WN (HIS.out.mono hcB) HIN.out)
         rw[same_refl] at HEB
         have HTB2:=Lib.hid (fun W (h1:RC W af nf FL) (h2:RC W a8 pre2.length FL)=>table_c af a8 nf pre2.length cf cs8 FL FL W h1 h2)
         rw[sameT_refl] at HTB2
         go_wp2_with (first|(go_at_call 41;refine HEB.out.mono ?_;rintro _ w1 ⟨rfl,hb1⟩;replace hcur:=keep_trans hcur hb1;replace hcB:=keep_trans hcB hb1;replace HRN2:=Lib.hid (HRN2.out.mono hb1))|(go_at_call 28;refine (HTB2.out _ (HRF.out.mono hcB) HRN2.out).mono ?_;rintro _ w1 ⟨rfl,hb1⟩;replace hcur:=keep_trans hcur hb1)|(go_at_call 17;refine (HA.out _).mono ?_;rintro _ w1 ⟨rfl,hb1⟩;replace hcur:=keep_trans hcur hb1))
         go_ret
         exact ⟨rfl,keep_trans fB hcur⟩
      ·subst e1;subst e2
       have HL6:=Lib.hid hl6
       clear hSB hST hR2 hRL hFL hk hr hdn hl6 HRE HCN
       by_cases bn:B<0
       ·have hce:ce=3:=by rw[hCE.out,if_pos (.inl bn)]
        obtain ⟨e1,e2⟩:=hCV.out (by rw[hce];decide)
        subst hce
        subst e1;subst e2
        clear hCE hCV hCO HRN HLF
        go_wp2_with (first|(go_at_call 42;refine (HRS.out _ (keep_trans fB hcur)).mono ?_;rintro _ w1 ⟨rfl,hb1⟩;replace hcur:=keep_trans hcur hb1;replace hcB:=keep_trans hcB hb1;replace HRM:=Lib.hid (HRM.out.mono hb1);clear z0 z1 z2 zl;obtain ⟨z0,z1,z2,zl⟩:=HZ.out _ hcur;clear x0 x1 x2 x3 xl;obtain ⟨x0,x1,x2,x3,xl⟩:=HX.out _ hcur)|(go_at_call 16;refine (HOP.out _ (keep_trans fB hcur)).mono ?_;rintro _ w1 ⟨vo,rfl,howno,hb1⟩;obtain ⟨ao,co,rfl⟩:=owns_shape howno;clear howno;replace hcur:=keep_trans hcur hb1;replace hcB:=keep_trans hcB hb1;replace HRM:=Lib.hid (HRM.out.mono hb1);clear z0 z1 z2 zl;obtain ⟨z0,z1,z2,zl⟩:=HZ.out _ hcur;clear x0 x1 x2 x3 xl;obtain ⟨x0,x1,x2,x3,xl⟩:=HX.out _ hcur))
        refine (HRR.out _ (keep_trans fB hcur)).mono ?_
        rintro _ w1 ⟨⟨vf,pre,rfl,hr,hall,hpl⟩,hb1⟩
        obtain ⟨a9,cs,e,hrc,hcs⟩:=hr.rc (by omega) (hr.short hall (fun l hl=>by have h1:=HLR.out l hl;have h2:=HM.out.1;omega))
        subst e
        have hpn:=congrArg List.length hall
        rw[List.length_map] at hpn
        rw[hall] at hrc
        replace hcur:=keep_trans hcur hb1
        replace hcB:=keep_trans hcB hb1
        replace HRM:=Lib.hid (HRM.out.mono hb1)
        have HRC:=Lib.hid hrc
        clear hr hall hrc
        clear z0 z1 z2 zl
        obtain ⟨z0,z1,z2,zl⟩:=HZ.out _ hcur
        clear x0 x1 x2 x3 xl
        obtain ⟨x0,x1,x2,x3,xl⟩:=HX.out _ hcur
        have hbig:¬(256:Int)<(pre.length:Int):=by have:=HL6.out;omega
        generalize pre.length=N at hbig HRC hcs hpl hpn ⊢
        replace hcs:=Lib.hid hcs
        clear hpl hpn
        have HTB:=Lib.hid (fun W (h1:RC W am nm ML) (h2:RC W a9 N ML)=>table_c am a9 nm N cm cs ML ML W h1 h2)
        rw[sameT_refl] at HTB
        have h0:=HIS.out.len
        rw[List.length_nil] at h0
        subst h0
        have h0:=HRF.out.len
        rw[List.length_nil] at h0
        subst h0
        have HEB:=Lib.hid (fun W=>samest_c ar 0 cr [] 0 false none 0 0 [] 0 false W (IC.nil0 ar W) (IC.nil0 none W))
        rw[show sameSt [] [] 0 0 false false=true from by decide] at HEB
        go_wp2_with (first|(go_at_call 28;refine (HTB.out _ HRM.out HRC.out).mono ?_;rintro _ w1 ⟨rfl,hb1⟩;replace hcur:=keep_trans hcur hb1;replace hcB:=keep_trans hcB hb1;obtain ⟨b0,b1,b2,bl⟩:=q3 (keepq hcB HSB.out))|(go_at_call 41;refine (HEB.out _).mono ?_;rintro _ w1 ⟨rfl,hb1⟩;replace hcur:=keep_trans hcur hb1)|(go_at_call 17;refine (HA.out _).mono ?_;rintro _ w1 ⟨rfl,hb1⟩;replace hcur:=keep_trans hcur hb1))
        go_ret
        exact ⟨rfl,keep_trans fB hcur⟩
       ·have bg1:¬B<0:=bn
        have bg2:¬1000000<B:=by omega
        by_cases bl:999999999<tt+B
        ·have hce:ce=4:=by rw[hCE.out,if_neg (by omega),if_pos bl]
         obtain ⟨e1,e2⟩:=hCV.out (by rw[hce];decide)
         subst hce
         subst e1;subst e2
         clear hCE hCV hCO HRN HLF
         go_wp2_with (first|(go_at_call 42;refine (HRS.out _ (keep_trans fB hcur)).mono ?_;rintro _ w1 ⟨rfl,hb1⟩;replace hcur:=keep_trans hcur hb1;replace hcB:=keep_trans hcB hb1;replace HRM:=Lib.hid (HRM.out.mono hb1);clear z0 z1 z2 zl;obtain ⟨z0,z1,z2,zl⟩:=HZ.out _ hcur;clear x0 x1 x2 x3 xl;obtain ⟨x0,x1,x2,x3,xl⟩:=HX.out _ hcur)|(go_at_call 16;refine (HOP.out _ (keep_trans fB hcur)).mono ?_;rintro _ w1 ⟨vo,rfl,howno,hb1⟩;obtain ⟨ao,co,rfl⟩:=owns_shape howno;clear howno;replace hcur:=keep_trans hcur hb1;replace hcB:=keep_trans hcB hb1;replace HRM:=Lib.hid (HRM.out.mono hb1);clear z0 z1 z2 zl;obtain ⟨z0,z1,z2,zl⟩:=HZ.out _ hcur;clear x0 x1 x2 x3 xl;obtain ⟨x0,x1,x2,x3,xl⟩:=HX.out _ hcur))
         refine (HRR.out _ (keep_trans fB hcur)).mono ?_
         rintro _ w1 ⟨⟨vf,pre,rfl,hr,hall,hpl⟩,hb1⟩
         obtain ⟨a9,cs,e,hrc,hcs⟩:=hr.rc (by omega) (hr.short hall (fun l hl=>by have h1:=HLR.out l hl;have h2:=HM.out.1;omega))
         subst e
         have hpn:=congrArg List.length hall
         rw[List.length_map] at hpn
         rw[hall] at hrc
         replace hcur:=keep_trans hcur hb1
         replace hcB:=keep_trans hcB hb1
         replace HRM:=Lib.hid (HRM.out.mono hb1)
         have HRC:=Lib.hid hrc
         clear hr hall hrc
         clear z0 z1 z2 zl
         obtain ⟨z0,z1,z2,zl⟩:=HZ.out _ hcur
         clear x0 x1 x2 x3 xl
         obtain ⟨x0,x1,x2,x3,xl⟩:=HX.out _ hcur
         have hbig:¬(256:Int)<(pre.length:Int):=by have:=HL6.out;omega
         generalize pre.length=N at hbig HRC hcs hpl hpn ⊢
         replace hcs:=Lib.hid hcs
         clear hpl hpn
         have HTB:=Lib.hid (fun W (h1:RC W am nm ML) (h2:RC W a9 N ML)=>table_c am a9 nm N cm cs ML ML W h1 h2)
         rw[sameT_refl] at HTB
         have h0:=HIS.out.len
         rw[List.length_nil] at h0
         subst h0
         have h0:=HRF.out.len
         rw[List.length_nil] at h0
         subst h0
         have HEB:=Lib.hid (fun W=>samest_c ar 0 cr [] 0 false none 0 0 [] 0 false W (IC.nil0 ar W) (IC.nil0 none W))
         rw[show sameSt [] [] 0 0 false false=true from by decide] at HEB
         go_wp2_with (first|(go_at_call 28;refine (HTB.out _ HRM.out HRC.out).mono ?_;rintro _ w1 ⟨rfl,hb1⟩;replace hcur:=keep_trans hcur hb1;replace hcB:=keep_trans hcB hb1;obtain ⟨b0,b1,b2,bl⟩:=q3 (keepq hcB HSB.out))|(go_at_call 41;refine (HEB.out _).mono ?_;rintro _ w1 ⟨rfl,hb1⟩;replace hcur:=keep_trans hcur hb1)|(go_at_call 17;refine (HA.out _).mono ?_;rintro _ w1 ⟨rfl,hb1⟩;replace hcur:=keep_trans hcur hb1))
         go_ret
         exact ⟨rfl,keep_trans fB hcur⟩
        ·have hce:ce=0:=by rw[hCE.out,if_neg (by omega),if_neg bl]
         subst hce
         obtain ⟨b,rfl⟩:∃b:Nat,B=(b:Int):=⟨B.toNat,by omega⟩
         have HRN:=Lib.hid (HRN.out b (by omega))
         have hco:=hCO.out rfl
         rw[Int.toNat_natCast] at hco HLF
         rw[hco] at HRN HLF
         clear hCE hCV hCO hco
         go_wp2_with (first|(go_at_call 42;refine (HRS.out _ (keep_trans fB hcur)).mono ?_;rintro _ w1 ⟨rfl,hb1⟩;replace hcur:=keep_trans hcur hb1;replace hcB:=keep_trans hcB hb1;replace HRM:=Lib.hid (HRM.out.mono hb1);clear z0 z1 z2 zl;obtain ⟨z0,z1,z2,zl⟩:=HZ.out _ hcur;clear x0 x1 x2 x3 xl;obtain ⟨x0,x1,x2,x3,xl⟩:=HX.out _ hcur)|(go_at_call 16;refine (HOP.out _ (keep_trans fB hcur)).mono ?_;rintro _ w1 ⟨vo,rfl,howno,hb1⟩;obtain ⟨ao,co,rfl⟩:=owns_shape howno;clear howno;replace hcur:=keep_trans hcur hb1;replace hcB:=keep_trans hcB hb1;replace HRM:=Lib.hid (HRM.out.mono hb1);clear z0 z1 z2 zl;obtain ⟨z0,z1,z2,zl⟩:=HZ.out _ hcur;clear x0 x1 x2 x3 xl;obtain ⟨x0,x1,x2,x3,xl⟩:=HX.out _ hcur))
         refine (HRR.out _ (keep_trans fB hcur)).mono ?_
         rintro _ w1 ⟨⟨vf,pre,rfl,hr,hall,hpl⟩,hb1⟩
         obtain ⟨a9,cs,e,hrc,hcs⟩:=hr.rc (by omega) (hr.short hall (fun l hl=>by have h1:=HLR.out l hl;have h2:=HM.out.1;omega))
         subst e
         have hpn:=congrArg List.length hall
         rw[List.length_map] at hpn
         rw[hall] at hrc
         replace hcur:=keep_trans hcur hb1
         replace hcB:=keep_trans hcB hb1
         replace HRM:=Lib.hid (HRM.out.mono hb1)
         have HRC:=Lib.hid hrc
         clear hr hall hrc
         clear z0 z1 z2 zl
         obtain ⟨z0,z1,z2,zl⟩:=HZ.out _ hcur
         clear x0 x1 x2 x3 xl
         obtain ⟨x0,x1,x2,x3,xl⟩:=HX.out _ hcur
         have hbig:¬(256:Int)<(pre.length:Int):=by have:=HL6.out;omega
         generalize pre.length=N at hbig HRC hcs hpl hpn ⊢
         replace hcs:=Lib.hid hcs
         clear hpl hpn
         have HTB:=Lib.hid (fun W (h1:RC W am nm ML) (h2:RC W a9 N ML)=>table_c am a9 nm N cm cs ML ML W h1 h2)
         rw[sameT_refl] at HTB
         go_wp2_with (first|(go_at_call 28;refine (HTB.out _ HRM.out HRC.out).mono ?_;rintro _ w1 ⟨rfl,hb1⟩;replace hcur:=keep_trans hcur hb1;replace hcB:=keep_trans hcB hb1;clear z0 z1 z2 zl;obtain ⟨z0,z1,z2,zl⟩:=HZ.out _ hcur;clear x0 x1 x2 x3 xl;obtain ⟨x0,x1,x2,x3,xl⟩:=HX.out _ hcur))
         refine (HRN.out _ (keep_trans fB hcur)).mono ?_
         rintro _ w1 ⟨⟨an,nn,cn,vf2,pre2,rfl,hIN,hcn,hr,hall,hpl2,_⟩,hb1⟩
         obtain ⟨a8,cs8,e,hrc,hcs8⟩:=hr.rc (by omega) (hr.short hall (fun l hl=>by have h1:=HLF.out l hl;have h2:=HM.out.1;omega))
         subst e
         rw[hall] at hrc
         replace hcur:=keep_trans hcur hb1
         replace hcB:=keep_trans hcB hb1
         obtain ⟨b0,b1,b2,bl⟩:=q3 (keepq hcB HSB.out)
         clear hr hall
         go_wp2_with fail
         have psz:(w1.alloc (.cells #[.slice an nn cn,.int .i64 S.2.1,.bool S.2.2] 76)).heap.size=w1.heap.size+1:=by simp only[World.size_alloc]
         have pB:Below w1.heap.size w1 (w1.alloc (.cells #[.slice an nn cn,.int .i64 S.2.1,.bool S.2.2] 76)):=(Below.refl _ _).alloc (Nat.le_refl _) _
         have pq0:(w1.alloc (.cells #[.slice an nn cn,.int .i64 S.2.1,.bool S.2.2] 76)).heap[w1.heap.size]?=some (.cells #[.slice an nn cn,.int .i64 S.2.1,.bool S.2.2] 76 (0,0)):=by have h:=World.alloc_heap_new w1 (.cells #[.slice an nn cn,.int .i64 S.2.1,.bool S.2.2] 76);exact h
         generalize (w1.alloc (.cells #[.slice an nn cn,.int .i64 S.2.1,.bool S.2.2] 76))=WN at psz pB pq0 ⊢
         replace hcur:=keep_trans hcur pB
         replace hcB:=keep_trans hcB pB
         have HIN:=Lib.hid (hIN.mono pB)
         have HRN2:=Lib.hid (hrc.mono pB)
         clear psz pq0 pB hb1 hIN hrc b0 b1 b2 bl
         have HEB:=Lib.hid (samest_c ar nr cr S.1 S.2.1 S.2.2 an nn cn S.1 S.2.1 S.2.2 WN (HIS.out.mono hcB) HIN.out)
         rw[same_refl] at HEB
         have HTB2:=Lib.hid (fun W (h1:RC W af nf FL) (h2:RC W a8 pre2.length FL)=>table_c af a8 nf pre2.length cf cs8 FL FL W h1 h2)
         rw[sameT_refl] at HTB2
         go_wp2_with (first|(go_at_call 41;refine HEB.out.mono ?_;rintro _ w1 ⟨rfl,hb1⟩;replace hcur:=keep_trans hcur hb1;replace hcB:=keep_trans hcB hb1;replace HRN2:=Lib.hid (HRN2.out.mono hb1))|(go_at_call 28;refine (HTB2.out _ (HRF.out.mono hcB) HRN2.out).mono ?_;rintro _ w1 ⟨rfl,hb1⟩;replace hcur:=keep_trans hcur hb1)|(go_at_call 17;refine (HA.out _).mono ?_;rintro _ w1 ⟨rfl,hb1⟩;replace hcur:=keep_trans hcur hb1))
         go_ret
         exact ⟨rfl,keep_trans fB hcur⟩
     ·obtain ⟨e1,e2,e3,e4,e5⟩:=hSB.out hs
      have hsi:(sr==0)=false:=by simpa using hs
      clear hSB hST hR2 hRL hFL hCE hCV hCO HRN HRR HCN HRE
      subst e1;subst e2;subst e3;subst e4;subst e5
      have HTB:=Lib.hid (fun W (h1:RC W am nm [])=>table_c am none nm 0 cm 0 [] [] W h1 (RC.none W))
      rw[sameT_refl] at HTB
      have h0:=HIS.out.len
      rw[List.length_nil] at h0
      subst h0
      have h0:=HRF.out.len
      rw[List.length_nil] at h0
      subst h0
      have HEB:=Lib.hid (fun W=>samest_c ar 0 cr [] 0 false none 0 0 [] 0 false W (IC.nil0 ar W) (IC.nil0 none W))
      rw[show sameSt [] [] 0 0 false false=true from by decide] at HEB
      go_wp2_with (first|(go_at_call 42;refine (HRS.out _ (keep_trans fB hcur)).mono ?_;rintro _ w1 ⟨rfl,hb1⟩;replace hcur:=keep_trans hcur hb1;replace hcB:=keep_trans hcB hb1;replace HRM:=Lib.hid (HRM.out.mono hb1);clear z0 z1 z2 zl;obtain ⟨z0,z1,z2,zl⟩:=HZ.out _ hcur;clear x0 x1 x2 x3 xl;obtain ⟨x0,x1,x2,x3,xl⟩:=HX.out _ hcur)|(go_at_call 16;refine (HOP.out _ (keep_trans fB hcur)).mono ?_;rintro _ w1 ⟨vo,rfl,howno,hb1⟩;obtain ⟨ao,co,rfl⟩:=owns_shape howno;clear howno;replace hcur:=keep_trans hcur hb1;replace hcB:=keep_trans hcB hb1;replace HRM:=Lib.hid (HRM.out.mono hb1);clear z0 z1 z2 zl;obtain ⟨z0,z1,z2,zl⟩:=HZ.out _ hcur;clear x0 x1 x2 x3 xl;obtain ⟨x0,x1,x2,x3,xl⟩:=HX.out _ hcur)|(go_at_call 28;refine (HTB.out _ HRM.out).mono ?_;rintro _ w1 ⟨rfl,hb1⟩;replace hcur:=keep_trans hcur hb1;replace hcB:=keep_trans hcB hb1;obtain ⟨b0,b1,b2,bl⟩:=q3 (keepq hcB HSB.out))|(go_at_call 41;refine (HEB.out _).mono ?_;rintro _ w1 ⟨rfl,hb1⟩;replace hcur:=keep_trans hcur hb1)|(go_at_call 17;refine (HA.out _).mono ?_;rintro _ w1 ⟨rfl,hb1⟩;replace hcur:=keep_trans hcur hb1))
      go_ret
      exact ⟨rfl,keep_trans fB hcur⟩
    ·by_cases h16:(openL g).length≤16
     ·have o6:(6:Int)<((openL g).length:Int):=by omega
      have o16:((openL g).length:Int)≤16:=by omega
      go_wp2_with (first|(go_at_call 14;refine (HSH.out _ (keep_trans fB hcur)).mono ?_;rintro _ w1 ⟨rfl,hb1⟩;replace hcur:=keep_trans hcur hb1;replace HSA:=Lib.hid (keepq hb1 HSA.out);clear a0 a1 a2 al;obtain ⟨a0,a1,a2,al⟩:=q3 HSA.out;clear y0 y1 y2 y3 yl;obtain ⟨y0,y1,y2,y3,yl⟩:=HY.out _ hcur;clear z0 z1 z2 zl;obtain ⟨z0,z1,z2,zl⟩:=HZ.out _ hcur;clear x0 x1 x2 x3 xl;obtain ⟨x0,x1,x2,x3,xl⟩:=HX.out _ hcur)|(go_at_call 15;refine (HTK.out _ (keep_trans fB hcur)).mono ?_;rintro _ w1 ⟨rfl,hb1⟩;replace hcur:=keep_trans hcur hb1;replace HSA:=Lib.hid (keepq hb1 HSA.out);clear a0 a1 a2 al;obtain ⟨a0,a1,a2,al⟩:=q3 HSA.out;clear y0 y1 y2 y3 yl;obtain ⟨y0,y1,y2,y3,yl⟩:=HY.out _ hcur;clear z0 z1 z2 zl;obtain ⟨z0,z1,z2,zl⟩:=HZ.out _ hcur;clear x0 x1 x2 x3 xl;obtain ⟨x0,x1,x2,x3,xl⟩:=HX.out _ hcur)|(go_at_call 38;refine (HKS.out _ (keep_trans fB hcur)).mono ?_;rintro _ w1 ⟨rfl,hb1⟩;replace hcur:=keep_trans hcur hb1;replace HSA:=Lib.hid (keepq hb1 HSA.out);clear a0 a1 a2 al;obtain ⟨a0,a1,a2,al⟩:=q3 HSA.out;clear y0 y1 y2 y3 yl;obtain ⟨y0,y1,y2,y3,yl⟩:=HY.out _ hcur;clear z0 z1 z2 zl;obtain ⟨z0,z1,z2,zl⟩:=HZ.out _ hcur;clear x0 x1 x2 x3 xl;obtain ⟨x0,x1,x2,x3,xl⟩:=HX.out _ hcur)|(go_at_call 42;refine (HRS.out _ (keep_trans fB hcur)).mono ?_;rintro _ w1 ⟨rfl,hb1⟩;replace hcur:=keep_trans hcur hb1;replace HSA:=Lib.hid (keepq hb1 HSA.out);clear a0 a1 a2 al;obtain ⟨a0,a1,a2,al⟩:=q3 HSA.out;clear y0 y1 y2 y3 yl;obtain ⟨y0,y1,y2,y3,yl⟩:=HY.out _ hcur;clear z0 z1 z2 zl;obtain ⟨z0,z1,z2,zl⟩:=HZ.out _ hcur;clear x0 x1 x2 x3 xl;obtain ⟨x0,x1,x2,x3,xl⟩:=HX.out _ hcur)|(go_at_call 16;refine (HOP.out _ (keep_trans fB hcur)).mono ?_;rintro _ w1 ⟨vo,rfl,howno,hb1⟩;obtain ⟨ao,co,rfl⟩:=owns_shape howno;clear howno;replace hcur:=keep_trans hcur hb1;replace HSA:=Lib.hid (keepq hb1 HSA.out);clear a0 a1 a2 al;obtain ⟨a0,a1,a2,al⟩:=q3 HSA.out;clear y0 y1 y2 y3 yl;obtain ⟨y0,y1,y2,y3,yl⟩:=HY.out _ hcur;clear z0 z1 z2 zl;obtain ⟨z0,z1,z2,zl⟩:=HZ.out _ hcur;clear x0 x1 x2 x3 xl;obtain ⟨x0,x1,x2,x3,xl⟩:=HX.out _ hcur)|(go_at_call 41;refine (HES.out _).mono ?_;rintro _ w1 ⟨rfl,hb1⟩;replace hcur:=keep_trans hcur hb1;replace HSA:=Lib.hid (keepq hb1 HSA.out);clear a0 a1 a2 al;obtain ⟨a0,a1,a2,al⟩:=q3 HSA.out;clear y0 y1 y2 y3 yl;obtain ⟨y0,y1,y2,y3,yl⟩:=HY.out _ hcur;clear z0 z1 z2 zl;obtain ⟨z0,z1,z2,zl⟩:=HZ.out _ hcur;clear x0 x1 x2 x3 xl;obtain ⟨x0,x1,x2,x3,xl⟩:=HX.out _ hcur)|(go_at_call 17;refine (HA.out _).mono ?_;rintro _ w1 ⟨rfl,hb1⟩;replace hcur:=keep_trans hcur hb1))
      go_ret
      exact ⟨rfl,keep_trans fB hcur⟩
     ·have o6:(6:Int)<((openL g).length:Int):=by omega
      have o16:(16:Int)<((openL g).length:Int):=by omega
      have o16':¬((openL g).length:Int)≤16:=by omega
      go_wp2_with (first|(go_at_call 14;refine (HSH.out _ (keep_trans fB hcur)).mono ?_;rintro _ w1 ⟨rfl,hb1⟩;replace hcur:=keep_trans hcur hb1;replace HSA:=Lib.hid (keepq hb1 HSA.out);clear a0 a1 a2 al;obtain ⟨a0,a1,a2,al⟩:=q3 HSA.out;clear y0 y1 y2 y3 yl;obtain ⟨y0,y1,y2,y3,yl⟩:=HY.out _ hcur;clear z0 z1 z2 zl;obtain ⟨z0,z1,z2,zl⟩:=HZ.out _ hcur;clear x0 x1 x2 x3 xl;obtain ⟨x0,x1,x2,x3,xl⟩:=HX.out _ hcur)|(go_at_call 15;refine (HTK.out _ (keep_trans fB hcur)).mono ?_;rintro _ w1 ⟨rfl,hb1⟩;replace hcur:=keep_trans hcur hb1;replace HSA:=Lib.hid (keepq hb1 HSA.out);clear a0 a1 a2 al;obtain ⟨a0,a1,a2,al⟩:=q3 HSA.out;clear y0 y1 y2 y3 yl;obtain ⟨y0,y1,y2,y3,yl⟩:=HY.out _ hcur;clear z0 z1 z2 zl;obtain ⟨z0,z1,z2,zl⟩:=HZ.out _ hcur;clear x0 x1 x2 x3 xl;obtain ⟨x0,x1,x2,x3,xl⟩:=HX.out _ hcur)|(go_at_call 38;refine (HKS.out _ (keep_trans fB hcur)).mono ?_;rintro _ w1 ⟨rfl,hb1⟩;replace hcur:=keep_trans hcur hb1;replace HSA:=Lib.hid (keepq hb1 HSA.out);clear a0 a1 a2 al;obtain ⟨a0,a1,a2,al⟩:=q3 HSA.out;clear y0 y1 y2 y3 yl;obtain ⟨y0,y1,y2,y3,yl⟩:=HY.out _ hcur;clear z0 z1 z2 zl;obtain ⟨z0,z1,z2,zl⟩:=HZ.out _ hcur;clear x0 x1 x2 x3 xl;obtain ⟨x0,x1,x2,x3,xl⟩:=HX.out _ hcur)|(go_at_call 42;refine (HRS.out _ (keep_trans fB hcur)).mono ?_;rintro _ w1 ⟨rfl,hb1⟩;replace hcur:=keep_trans hcur hb1;replace HSA:=Lib.hid (keepq hb1 HSA.out);clear a0 a1 a2 al;obtain ⟨a0,a1,a2,al⟩:=q3 HSA.out;clear y0 y1 y2 y3 yl;obtain ⟨y0,y1,y2,y3,yl⟩:=HY.out _ hcur;clear z0 z1 z2 zl;obtain ⟨z0,z1,z2,zl⟩:=HZ.out _ hcur;clear x0 x1 x2 x3 xl;obtain ⟨x0,x1,x2,x3,xl⟩:=HX.out _ hcur)|(go_at_call 16;refine (HOP.out _ (keep_trans fB hcur)).mono ?_;rintro _ w1 ⟨vo,rfl,howno,hb1⟩;obtain ⟨ao,co,rfl⟩:=owns_shape howno;clear howno;replace hcur:=keep_trans hcur hb1;replace HSA:=Lib.hid (keepq hb1 HSA.out);clear a0 a1 a2 al;obtain ⟨a0,a1,a2,al⟩:=q3 HSA.out;clear y0 y1 y2 y3 yl;obtain ⟨y0,y1,y2,y3,yl⟩:=HY.out _ hcur;clear z0 z1 z2 zl;obtain ⟨z0,z1,z2,zl⟩:=HZ.out _ hcur;clear x0 x1 x2 x3 xl;obtain ⟨x0,x1,x2,x3,xl⟩:=HX.out _ hcur)|(go_at_call 41;refine (HES.out _).mono ?_;rintro _ w1 ⟨rfl,hb1⟩;replace hcur:=keep_trans hcur hb1;replace HSA:=Lib.hid (keepq hb1 HSA.out);clear a0 a1 a2 al;obtain ⟨a0,a1,a2,al⟩:=q3 HSA.out;clear y0 y1 y2 y3 yl;obtain ⟨y0,y1,y2,y3,yl⟩:=HY.out _ hcur;clear z0 z1 z2 zl;obtain ⟨z0,z1,z2,zl⟩:=HZ.out _ hcur;clear x0 x1 x2 x3 xl;obtain ⟨x0,x1,x2,x3,xl⟩:=HX.out _ hcur))
      clear a0 a1 a2 al HSA
      refine (HCN.out _ (keep_trans fB hcur)).mono ?_
      rintro _ w1 ⟨ar,nr,cr,af,nf,cf,rfl,hIS,hcr,hRF,hcf,hb1⟩
      replace hcur:=keep_trans hcur hb1
      clear y0 y1 y2 y3 yl
      obtain ⟨y0,y1,y2,y3,yl⟩:=HY.out _ hcur
      clear z0 z1 z2 zl
      obtain ⟨z0,z1,z2,zl⟩:=HZ.out _ hcur
      clear x0 x1 x2 x3 xl
      obtain ⟨x0,x1,x2,x3,xl⟩:=HX.out _ hcur
      go_wp2_with fail
      have psz:(w1.alloc (.cells #[.slice ar nr cr,.int .i64 S.2.1,.bool S.2.2] 68)).heap.size=w1.heap.size+1:=by simp only[World.size_alloc]
      have pB:Below w1.heap.size w1 (w1.alloc (.cells #[.slice ar nr cr,.int .i64 S.2.1,.bool S.2.2] 68)):=(Below.refl _ _).alloc (Nat.le_refl _) _
      have pq0:(w1.alloc (.cells #[.slice ar nr cr,.int .i64 S.2.1,.bool S.2.2] 68)).heap[w1.heap.size]?=some (.cells #[.slice ar nr cr,.int .i64 S.2.1,.bool S.2.2] 68 (0,0)):=by have h:=World.alloc_heap_new w1 (.cells #[.slice ar nr cr,.int .i64 S.2.1,.bool S.2.2] 68);exact h
      generalize (w1.alloc (.cells #[.slice ar nr cr,.int .i64 S.2.1,.bool S.2.2] 68))=WB at psz pB pq0 ⊢
      replace hcur:=keep_trans hcur pB
      clear y0 y1 y2 y3 yl
      obtain ⟨y0,y1,y2,y3,yl⟩:=HY.out _ hcur
      clear z0 z1 z2 zl
      obtain ⟨z0,z1,z2,zl⟩:=HZ.out _ hcur
      clear x0 x1 x2 x3 xl
      obtain ⟨x0,x1,x2,x3,xl⟩:=HX.out _ hcur
      have hb1':=pB
      have HSB:=Lib.hid pq0
      have HIS:=Lib.hid (hIS.mono pB)
      have HRF:=Lib.hid (hRF.mono pB)
      have hcB:Below WB.heap.size WB WB:=Below.refl _ _
      clear psz pq0 hIS hRF pB hb1 hb1'
      refine (HRE.out _ (keep_trans fB hcur)).mono ?_
      rintro _ w1 ⟨am,nm,cm,rfl,hRM,hcm,hb1⟩
      replace hcur:=keep_trans hcur hb1
      replace hcB:=keep_trans hcB hb1
      have HRM:=Lib.hid hRM
      clear hRM
      clear z0 z1 z2 zl
      obtain ⟨z0,z1,z2,zl⟩:=HZ.out _ hcur
      clear x0 x1 x2 x3 xl
      obtain ⟨x0,x1,x2,x3,xl⟩:=HX.out _ hcur
      clear y0 y1 y2 y3 yl hb1
      by_cases hs:sr=0
      ·subst hs
       obtain ⟨hk,hr,hdn,ht0,ht3⟩:=hST.out rfl
       have HRN:=Lib.hid (HRN.out hk ht0 ht3)
       have HLF:=Lib.hid (hFL.out hk hr hdn)
       have hCE:=Lib.hid (hCE.out rfl)
       obtain ⟨e1,e2⟩:=hRB.out rfl (by omega)
       subst e1;subst e2
       clear hSB hST hR2 hRL hFL hk hr hdn hRB HRR HRE HCN
       by_cases bn:B<0
       ·have hce:ce=3:=by rw[hCE.out,if_pos (.inl bn)]
        obtain ⟨e1,e2⟩:=hCV.out (by rw[hce];decide)
        subst hce
        subst e1;subst e2
        clear hCE hCV hCO HRN HLF
        have HTB:=Lib.hid (fun W (h1:RC W am nm [])=>table_c am none nm 0 cm 0 [] [] W h1 (RC.none W))
        rw[sameT_refl] at HTB
        have h0:=HIS.out.len
        rw[List.length_nil] at h0
        subst h0
        have h0:=HRF.out.len
        rw[List.length_nil] at h0
        subst h0
        have HEB:=Lib.hid (fun W=>samest_c ar 0 cr [] 0 false none 0 0 [] 0 false W (IC.nil0 ar W) (IC.nil0 none W))
        rw[show sameSt [] [] 0 0 false false=true from by decide] at HEB
        go_wp2_with (first|(go_at_call 42;refine (HRS.out _ (keep_trans fB hcur)).mono ?_;rintro _ w1 ⟨rfl,hb1⟩;replace hcur:=keep_trans hcur hb1;replace hcB:=keep_trans hcB hb1;replace HRM:=Lib.hid (HRM.out.mono hb1);clear z0 z1 z2 zl;obtain ⟨z0,z1,z2,zl⟩:=HZ.out _ hcur;clear x0 x1 x2 x3 xl;obtain ⟨x0,x1,x2,x3,xl⟩:=HX.out _ hcur)|(go_at_call 16;refine (HOP.out _ (keep_trans fB hcur)).mono ?_;rintro _ w1 ⟨vo,rfl,howno,hb1⟩;obtain ⟨ao,co,rfl⟩:=owns_shape howno;clear howno;replace hcur:=keep_trans hcur hb1;replace hcB:=keep_trans hcB hb1;replace HRM:=Lib.hid (HRM.out.mono hb1);clear z0 z1 z2 zl;obtain ⟨z0,z1,z2,zl⟩:=HZ.out _ hcur;clear x0 x1 x2 x3 xl;obtain ⟨x0,x1,x2,x3,xl⟩:=HX.out _ hcur)|(go_at_call 28;refine (HTB.out _ HRM.out).mono ?_;rintro _ w1 ⟨rfl,hb1⟩;replace hcur:=keep_trans hcur hb1;replace hcB:=keep_trans hcB hb1;obtain ⟨b0,b1,b2,bl⟩:=q3 (keepq hcB HSB.out))|(go_at_call 41;refine (HEB.out _).mono ?_;rintro _ w1 ⟨rfl,hb1⟩;replace hcur:=keep_trans hcur hb1)|(go_at_call 17;refine (HA.out _).mono ?_;rintro _ w1 ⟨rfl,hb1⟩;replace hcur:=keep_trans hcur hb1))
        go_ret
        exact ⟨rfl,keep_trans fB hcur⟩
       ·have bg1:¬B<0:=bn
        have bg2:¬1000000<B:=by omega
        by_cases bl:999999999<tt+B
        ·have hce:ce=4:=by rw[hCE.out,if_neg (by omega),if_pos bl]
         obtain ⟨e1,e2⟩:=hCV.out (by rw[hce];decide)
         subst hce
         subst e1;subst e2
         clear hCE hCV hCO HRN HLF
         have HTB:=Lib.hid (fun W (h1:RC W am nm [])=>table_c am none nm 0 cm 0 [] [] W h1 (RC.none W))
         rw[sameT_refl] at HTB
         have h0:=HIS.out.len
         rw[List.length_nil] at h0
         subst h0
         have h0:=HRF.out.len
         rw[List.length_nil] at h0
         subst h0
         have HEB:=Lib.hid (fun W=>samest_c ar 0 cr [] 0 false none 0 0 [] 0 false W (IC.nil0 ar W) (IC.nil0 none W))
         rw[show sameSt [] [] 0 0 false false=true from by decide] at HEB
         go_wp2_with (first|(go_at_call 42;refine (HRS.out _ (keep_trans fB hcur)).mono ?_;rintro _ w1 ⟨rfl,hb1⟩;replace hcur:=keep_trans hcur hb1;replace hcB:=keep_trans hcB hb1;replace HRM:=Lib.hid (HRM.out.mono hb1);clear z0 z1 z2 zl;obtain ⟨z0,z1,z2,zl⟩:=HZ.out _ hcur;clear x0 x1 x2 x3 xl;obtain ⟨x0,x1,x2,x3,xl⟩:=HX.out _ hcur)|(go_at_call 16;refine (HOP.out _ (keep_trans fB hcur)).mono ?_;rintro _ w1 ⟨vo,rfl,howno,hb1⟩;obtain ⟨ao,co,rfl⟩:=owns_shape howno;clear howno;replace hcur:=keep_trans hcur hb1;replace hcB:=keep_trans hcB hb1;replace HRM:=Lib.hid (HRM.out.mono hb1);clear z0 z1 z2 zl;obtain ⟨z0,z1,z2,zl⟩:=HZ.out _ hcur;clear x0 x1 x2 x3 xl;obtain ⟨x0,x1,x2,x3,xl⟩:=HX.out _ hcur)|(go_at_call 28;refine (HTB.out _ HRM.out).mono ?_;rintro _ w1 ⟨rfl,hb1⟩;replace hcur:=keep_trans hcur hb1;replace hcB:=keep_trans hcB hb1;obtain ⟨b0,b1,b2,bl⟩:=q3 (keepq hcB HSB.out))|(go_at_call 41;refine (HEB.out _).mono ?_;rintro _ w1 ⟨rfl,hb1⟩;replace hcur:=keep_trans hcur hb1)|(go_at_call 17;refine (HA.out _).mono ?_;rintro _ w1 ⟨rfl,hb1⟩;replace hcur:=keep_trans hcur hb1))
         go_ret
         exact ⟨rfl,keep_trans fB hcur⟩
        ·have hce:ce=0:=by rw[hCE.out,if_neg (by omega),if_neg bl]
         subst hce
         obtain ⟨b,rfl⟩:∃b:Nat,B=(b:Int):=⟨B.toNat,by omega⟩
         have HRN:=Lib.hid (HRN.out b (by omega))
         have hco:=hCO.out rfl
         rw[Int.toNat_natCast] at hco HLF
         rw[hco] at HRN HLF
         clear hCE hCV hCO hco
         have HTB:=Lib.hid (fun W (h1:RC W am nm [])=>table_c am none nm 0 cm 0 [] [] W h1 (RC.none W))
         rw[sameT_refl] at HTB
         go_wp2_with (first|(go_at_call 42;refine (HRS.out _ (keep_trans fB hcur)).mono ?_;rintro _ w1 ⟨rfl,hb1⟩;replace hcur:=keep_trans hcur hb1;replace hcB:=keep_trans hcB hb1;replace HRM:=Lib.hid (HRM.out.mono hb1);clear z0 z1 z2 zl;obtain ⟨z0,z1,z2,zl⟩:=HZ.out _ hcur;clear x0 x1 x2 x3 xl;obtain ⟨x0,x1,x2,x3,xl⟩:=HX.out _ hcur)|(go_at_call 16;refine (HOP.out _ (keep_trans fB hcur)).mono ?_;rintro _ w1 ⟨vo,rfl,howno,hb1⟩;obtain ⟨ao,co,rfl⟩:=owns_shape howno;clear howno;replace hcur:=keep_trans hcur hb1;replace hcB:=keep_trans hcB hb1;replace HRM:=Lib.hid (HRM.out.mono hb1);clear z0 z1 z2 zl;obtain ⟨z0,z1,z2,zl⟩:=HZ.out _ hcur;clear x0 x1 x2 x3 xl;obtain ⟨x0,x1,x2,x3,xl⟩:=HX.out _ hcur)|(go_at_call 28;refine (HTB.out _ HRM.out).mono ?_;rintro _ w1 ⟨rfl,hb1⟩;replace hcur:=keep_trans hcur hb1;replace hcB:=keep_trans hcB hb1;clear z0 z1 z2 zl;obtain ⟨z0,z1,z2,zl⟩:=HZ.out _ hcur;clear x0 x1 x2 x3 xl;obtain ⟨x0,x1,x2,x3,xl⟩:=HX.out _ hcur))
         refine (HRN.out _ (keep_trans fB hcur)).mono ?_
         rintro _ w1 ⟨⟨an,nn,cn,vf2,pre2,rfl,hIN,hcn,hr,hall,hpl2,_⟩,hb1⟩
         obtain ⟨a8,cs8,e,hrc,hcs8⟩:=hr.rc (by omega) (hr.short hall (fun l hl=>by have h1:=HLF.out l hl;have h2:=HM.out.1;omega))
         subst e
         rw[hall] at hrc
         replace hcur:=keep_trans hcur hb1
         replace hcB:=keep_trans hcB hb1
         obtain ⟨b0,b1,b2,bl⟩:=q3 (keepq hcB HSB.out)
         clear hr hall
         go_wp2_with fail
         have psz:(w1.alloc (.cells #[.slice an nn cn,.int .i64 S.2.1,.bool S.2.2] 76)).heap.size=w1.heap.size+1:=by simp only[World.size_alloc]
         have pB:Below w1.heap.size w1 (w1.alloc (.cells #[.slice an nn cn,.int .i64 S.2.1,.bool S.2.2] 76)):=(Below.refl _ _).alloc (Nat.le_refl _) _
         have pq0:(w1.alloc (.cells #[.slice an nn cn,.int .i64 S.2.1,.bool S.2.2] 76)).heap[w1.heap.size]?=some (.cells #[.slice an nn cn,.int .i64 S.2.1,.bool S.2.2] 76 (0,0)):=by have h:=World.alloc_heap_new w1 (.cells #[.slice an nn cn,.int .i64 S.2.1,.bool S.2.2] 76);exact h
         generalize (w1.alloc (.cells #[.slice an nn cn,.int .i64 S.2.1,.bool S.2.2] 76))=WN at psz pB pq0 ⊢
         replace hcur:=keep_trans hcur pB
         replace hcB:=keep_trans hcB pB
         have HIN:=Lib.hid (hIN.mono pB)
         have HRN2:=Lib.hid (hrc.mono pB)
         clear psz pq0 pB hb1 hIN hrc b0 b1 b2 bl
         have HEB:=Lib.hid (samest_c ar nr cr S.1 S.2.1 S.2.2 an nn cn S.1 S.2.1 S.2.2 WN (HIS.out.mono hcB) HIN.out)
         rw[same_refl] at HEB
         have HTB2:=Lib.hid (fun W (h1:RC W af nf FL) (h2:RC W a8 pre2.length FL)=>table_c af a8 nf pre2.length cf cs8 FL FL W h1 h2)
         rw[sameT_refl] at HTB2
         go_wp2_with (first|(go_at_call 41;refine HEB.out.mono ?_;rintro _ w1 ⟨rfl,hb1⟩;replace hcur:=keep_trans hcur hb1;replace hcB:=keep_trans hcB hb1;replace HRN2:=Lib.hid (HRN2.out.mono hb1))|(go_at_call 28;refine (HTB2.out _ (HRF.out.mono hcB) HRN2.out).mono ?_;rintro _ w1 ⟨rfl,hb1⟩;replace hcur:=keep_trans hcur hb1)|(go_at_call 17;refine (HA.out _).mono ?_;rintro _ w1 ⟨rfl,hb1⟩;replace hcur:=keep_trans hcur hb1))
         go_ret
         exact ⟨rfl,keep_trans fB hcur⟩
      ·obtain ⟨e1,e2,e3,e4,e5⟩:=hSB.out hs
       have hsi:(sr==0)=false:=by simpa using hs
       clear hSB hST hR2 hRL hFL hCE hCV hCO hRB HRN HRR HCN HRE
       subst e1;subst e2;subst e3;subst e4;subst e5
       have HTB:=Lib.hid (fun W (h1:RC W am nm [])=>table_c am none nm 0 cm 0 [] [] W h1 (RC.none W))
       rw[sameT_refl] at HTB
       have h0:=HIS.out.len
       rw[List.length_nil] at h0
       subst h0
       have h0:=HRF.out.len
       rw[List.length_nil] at h0
       subst h0
       have HEB:=Lib.hid (fun W=>samest_c ar 0 cr [] 0 false none 0 0 [] 0 false W (IC.nil0 ar W) (IC.nil0 none W))
       rw[show sameSt [] [] 0 0 false false=true from by decide] at HEB
       go_wp2_with (first|(go_at_call 42;refine (HRS.out _ (keep_trans fB hcur)).mono ?_;rintro _ w1 ⟨rfl,hb1⟩;replace hcur:=keep_trans hcur hb1;replace hcB:=keep_trans hcB hb1;replace HRM:=Lib.hid (HRM.out.mono hb1);clear z0 z1 z2 zl;obtain ⟨z0,z1,z2,zl⟩:=HZ.out _ hcur;clear x0 x1 x2 x3 xl;obtain ⟨x0,x1,x2,x3,xl⟩:=HX.out _ hcur)|(go_at_call 16;refine (HOP.out _ (keep_trans fB hcur)).mono ?_;rintro _ w1 ⟨vo,rfl,howno,hb1⟩;obtain ⟨ao,co,rfl⟩:=owns_shape howno;clear howno;replace hcur:=keep_trans hcur hb1;replace hcB:=keep_trans hcB hb1;replace HRM:=Lib.hid (HRM.out.mono hb1);clear z0 z1 z2 zl;obtain ⟨z0,z1,z2,zl⟩:=HZ.out _ hcur;clear x0 x1 x2 x3 xl;obtain ⟨x0,x1,x2,x3,xl⟩:=HX.out _ hcur)|(go_at_call 28;refine (HTB.out _ HRM.out).mono ?_;rintro _ w1 ⟨rfl,hb1⟩;replace hcur:=keep_trans hcur hb1;replace hcB:=keep_trans hcB hb1;obtain ⟨b0,b1,b2,bl⟩:=q3 (keepq hcB HSB.out))|(go_at_call 41;refine (HEB.out _).mono ?_;rintro _ w1 ⟨rfl,hb1⟩;replace hcur:=keep_trans hcur hb1)|(go_at_call 17;refine (HA.out _).mono ?_;rintro _ w1 ⟨rfl,hb1⟩;replace hcur:=keep_trans hcur hb1))
       go_ret
       exact ⟨rfl,keep_trans fB hcur⟩
   ·have hti:(te==0)=false:=by simpa using ht
    have htn:(te != 0)=true:=by simpa using ht
    rw[hKB.out ht] at HKS
    obtain ⟨e1,e2,e3,e4,e5⟩:=hBAD.out ht
    subst e1;subst e2;subst e3;subst e4;subst e5
    clear HGT HGL hKB hSE hSB hCE hCV hCO hST hRB hR2 hRL hFL HRS HRR HRN hBAD
    go_wp2_with (first|(go_at_call 15;refine (HTK.out _ (keep_trans fB hcur)).mono ?_;rintro _ w1 ⟨rfl,hb1⟩;replace hcur:=keep_trans hcur hb1;replace HSA:=Lib.hid (keepq hb1 HSA.out);clear a0 a1 a2 al;obtain ⟨a0,a1,a2,al⟩:=q3 HSA.out;clear y0 y1 y2 y3 yl;obtain ⟨y0,y1,y2,y3,yl⟩:=HY.out _ hcur;clear z0 z1 z2 zl;obtain ⟨z0,z1,z2,zl⟩:=HZ.out _ hcur;clear x0 x1 x2 x3 xl;obtain ⟨x0,x1,x2,x3,xl⟩:=HX.out _ hcur)|(go_at_call 38;refine (HKS.out _ (keep_trans fB hcur)).mono ?_;rintro _ w1 ⟨rfl,hb1⟩;replace hcur:=keep_trans hcur hb1;replace HSA:=Lib.hid (keepq hb1 HSA.out);clear a0 a1 a2 al;obtain ⟨a0,a1,a2,al⟩:=q3 HSA.out;clear y0 y1 y2 y3 yl;obtain ⟨y0,y1,y2,y3,yl⟩:=HY.out _ hcur;clear z0 z1 z2 zl;obtain ⟨z0,z1,z2,zl⟩:=HZ.out _ hcur;clear x0 x1 x2 x3 xl;obtain ⟨x0,x1,x2,x3,xl⟩:=HX.out _ hcur))
    refine (HCN.out _ (keep_trans fB hcur)).mono ?_
    rintro _ w1 ⟨ar,nr,cr,af,nf,cf,rfl,hIS,hcr,hRF,hcf,hb1⟩
    replace hcur:=keep_trans hcur hb1
    replace HSA:=Lib.hid (keepq hb1 HSA.out)
    clear a0 a1 a2 al
    obtain ⟨a0,a1,a2,al⟩:=q3 HSA.out
    have h0:=hIS.len
    rw[List.length_nil] at h0
    subst h0
    have h0:=hRF.len
    rw[List.length_nil] at h0
    subst h0
    clear y0 y1 y2 y3 yl
    obtain ⟨y0,y1,y2,y3,yl⟩:=HY.out _ hcur
    clear z0 z1 z2 zl
    obtain ⟨z0,z1,z2,zl⟩:=HZ.out _ hcur
    clear x0 x1 x2 x3 xl
    obtain ⟨x0,x1,x2,x3,xl⟩:=HX.out _ hcur
    go_wp2_with fail
    have psz:(w1.alloc (.cells #[.slice ar 0 cr,.int .i64 0,.bool false] 68)).heap.size=w1.heap.size+1:=by simp only[World.size_alloc]
    have pB:Below w1.heap.size w1 (w1.alloc (.cells #[.slice ar 0 cr,.int .i64 0,.bool false] 68)):=(Below.refl _ _).alloc (Nat.le_refl _) _
    have pq0:(w1.alloc (.cells #[.slice ar 0 cr,.int .i64 0,.bool false] 68)).heap[w1.heap.size]?=some (.cells #[.slice ar 0 cr,.int .i64 0,.bool false] 68 (0,0)):=by have h:=World.alloc_heap_new w1 (.cells #[.slice ar 0 cr,.int .i64 0,.bool false] 68);exact h
    generalize (w1.alloc (.cells #[.slice ar 0 cr,.int .i64 0,.bool false] 68))=WB at psz pB pq0 ⊢
    replace hcur:=keep_trans hcur pB
    clear y0 y1 y2 y3 yl
    obtain ⟨y0,y1,y2,y3,yl⟩:=HY.out _ hcur
    clear z0 z1 z2 zl
    obtain ⟨z0,z1,z2,zl⟩:=HZ.out _ hcur
    clear x0 x1 x2 x3 xl
    obtain ⟨x0,x1,x2,x3,xl⟩:=HX.out _ hcur
    replace HSA:=Lib.hid (keepq pB HSA.out)
    clear a0 a1 a2 al
    obtain ⟨a0,a1,a2,al⟩:=q3 HSA.out
    have HSB:=Lib.hid pq0
    have hcB:Below WB.heap.size WB WB:=Below.refl _ _
    clear psz pq0 hIS hRF pB hb1
    refine (HRE.out _ (keep_trans fB hcur)).mono ?_
    rintro _ w1 ⟨am,nm,cm,rfl,hRM,hcm,hb1⟩
    replace hcur:=keep_trans hcur hb1
    replace HSA:=Lib.hid (keepq hb1 HSA.out)
    clear a0 a1 a2 al
    obtain ⟨a0,a1,a2,al⟩:=q3 HSA.out
    replace hcB:=keep_trans hcB hb1
    have HRM:=Lib.hid hRM
    clear hRM
    clear y0 y1 y2 y3 yl
    obtain ⟨y0,y1,y2,y3,yl⟩:=HY.out _ hcur
    clear z0 z1 z2 zl
    obtain ⟨z0,z1,z2,zl⟩:=HZ.out _ hcur
    clear x0 x1 x2 x3 xl
    obtain ⟨x0,x1,x2,x3,xl⟩:=HX.out _ hcur
    have h0:=HRM.out.len
    rw[List.length_nil] at h0
    subst h0
    clear HRM
    obtain ⟨b0,b1,b2,bl⟩:=q3 (keepq hcB HSB.out)
    have HES:=Lib.hid (fun (q:Option Addr) (cq:Nat) W=>samest_c q 0 cq [] 0 false none 0 0 [] 0 false W (IC.nil0 q W) (IC.nil0 none W))
    rw[show sameSt [] [] 0 0 false false=true from by decide] at HES
    go_wp2_with (first|(go_at_call 41;refine (HES.out _ _ _).mono ?_;rintro _ w1 ⟨rfl,hb1⟩;replace hcur:=keep_trans hcur hb1;replace HSA:=Lib.hid (keepq hb1 HSA.out);clear a0 a1 a2 al;obtain ⟨a0,a1,a2,al⟩:=q3 HSA.out;replace hcB:=keep_trans hcB hb1;clear b0 b1 b2 bl;obtain ⟨b0,b1,b2,bl⟩:=q3 (keepq hcB HSB.out))|(go_at_call 17;refine (HA.out _).mono ?_;rintro _ w1 ⟨rfl,hb1⟩;replace hcur:=keep_trans hcur hb1))
    go_ret
    exact ⟨rfl,keep_trans fB hcur⟩
  ·have hb300:300<B:=by omega
   have hbm:¬B≤1000000:=by omega
   go_wp2_with (first|(go_at_call 14;refine (HSH.out _ (keep_trans fB hcur)).mono ?_;rintro _ w1 ⟨rfl,hb1⟩;replace hcur:=keep_trans hcur hb1;clear y0 y1 y2 y3 yl;obtain ⟨y0,y1,y2,y3,yl⟩:=HY.out _ hcur;clear z0 z1 z2 zl;obtain ⟨z0,z1,z2,zl⟩:=HZ.out _ hcur;clear x0 x1 x2 x3 xl;obtain ⟨x0,x1,x2,x3,xl⟩:=HX.out _ hcur))
   refine (HBG.out _ (keep_trans fB hcur)).mono ?_
   rintro _ w1 ⟨rfl,hb1⟩
   replace hcur:=keep_trans hcur hb1
   clear y0 y1 y2 y3 yl
   obtain ⟨y0,y1,y2,y3,yl⟩:=HY.out _ hcur
   clear z0 z1 z2 zl
   obtain ⟨z0,z1,z2,zl⟩:=HZ.out _ hcur
   clear x0 x1 x2 x3 xl
   obtain ⟨x0,x1,x2,x3,xl⟩:=HX.out _ hcur
   go_wp2_with fail
   have psz:(w1.alloc (.cells #[.slice none 0 0,.int .i64 0,.bool false] 68)).heap.size=w1.heap.size+1:=by simp only[World.size_alloc]
   have pB:Below w1.heap.size w1 (w1.alloc (.cells #[.slice none 0 0,.int .i64 0,.bool false] 68)):=(Below.refl _ _).alloc (Nat.le_refl _) _
   have pq0:(w1.alloc (.cells #[.slice none 0 0,.int .i64 0,.bool false] 68)).heap[w1.heap.size]?=some (.cells #[.slice none 0 0,.int .i64 0,.bool false] 68 (0,0)):=by have h:=World.alloc_heap_new w1 (.cells #[.slice none 0 0,.int .i64 0,.bool false] 68);exact h
   generalize (w1.alloc (.cells #[.slice none 0 0,.int .i64 0,.bool false] 68))=WA at psz pB pq0 ⊢
   replace hcur:=keep_trans hcur pB
   clear y0 y1 y2 y3 yl
   obtain ⟨y0,y1,y2,y3,yl⟩:=HY.out _ hcur
   clear z0 z1 z2 zl
   obtain ⟨z0,z1,z2,zl⟩:=HZ.out _ hcur
   clear x0 x1 x2 x3 xl
   obtain ⟨x0,x1,x2,x3,xl⟩:=HX.out _ hcur
   have HSA:=Lib.hid pq0
   obtain ⟨a0,a1,a2,al⟩:=q3 pq0
   clear psz pq0 pB hb1
   by_cases ht:te=0
   ·subst ht
    have G:=HGT.out rfl
    have HM:=Lib.hid (HGL.out rfl)
    have HRS:=Lib.hid (HRS.out G)
    have HRR:=Lib.hid (HRR.out G)
    have HRN:=Lib.hid (HRN.out G)
    have hR2:=Lib.hid (hR2.out G)
    have hRL:=Lib.hid (hRL.out G)
    have hFL:=Lib.hid (hFL.out G)
    have hss:sr=se:=hSE.out rfl
    subst hss
    have HES:=Lib.hid (fun W=>samest_c none 0 0 [] 0 false none 0 0 [] 0 false W (IC.nil0 none W) (IC.nil0 none W))
    rw[show sameSt [] [] 0 0 false false=true from by decide] at HES
    clear HGT HGL hBAD hKB hSE
    by_cases h6:(openL g).length≤6
    ·have o6:¬(6:Int)<((openL g).length:Int):=by omega
     have o16:¬(16:Int)<((openL g).length:Int):=by omega
     clear hRB
     go_wp2_with (first|(go_at_call 14;refine (HSH.out _ (keep_trans fB hcur)).mono ?_;rintro _ w1 ⟨rfl,hb1⟩;replace hcur:=keep_trans hcur hb1;replace HSA:=Lib.hid (keepq hb1 HSA.out);clear a0 a1 a2 al;obtain ⟨a0,a1,a2,al⟩:=q3 HSA.out;clear y0 y1 y2 y3 yl;obtain ⟨y0,y1,y2,y3,yl⟩:=HY.out _ hcur;clear z0 z1 z2 zl;obtain ⟨z0,z1,z2,zl⟩:=HZ.out _ hcur;clear x0 x1 x2 x3 xl;obtain ⟨x0,x1,x2,x3,xl⟩:=HX.out _ hcur)|(go_at_call 15;refine (HTK.out _ (keep_trans fB hcur)).mono ?_;rintro _ w1 ⟨rfl,hb1⟩;replace hcur:=keep_trans hcur hb1;replace HSA:=Lib.hid (keepq hb1 HSA.out);clear a0 a1 a2 al;obtain ⟨a0,a1,a2,al⟩:=q3 HSA.out;clear y0 y1 y2 y3 yl;obtain ⟨y0,y1,y2,y3,yl⟩:=HY.out _ hcur;clear z0 z1 z2 zl;obtain ⟨z0,z1,z2,zl⟩:=HZ.out _ hcur;clear x0 x1 x2 x3 xl;obtain ⟨x0,x1,x2,x3,xl⟩:=HX.out _ hcur)|(go_at_call 38;refine (HKS.out _ (keep_trans fB hcur)).mono ?_;rintro _ w1 ⟨rfl,hb1⟩;replace hcur:=keep_trans hcur hb1;replace HSA:=Lib.hid (keepq hb1 HSA.out);clear a0 a1 a2 al;obtain ⟨a0,a1,a2,al⟩:=q3 HSA.out;clear y0 y1 y2 y3 yl;obtain ⟨y0,y1,y2,y3,yl⟩:=HY.out _ hcur;clear z0 z1 z2 zl;obtain ⟨z0,z1,z2,zl⟩:=HZ.out _ hcur;clear x0 x1 x2 x3 xl;obtain ⟨x0,x1,x2,x3,xl⟩:=HX.out _ hcur)|(go_at_call 42;refine (HRS.out _ (keep_trans fB hcur)).mono ?_;rintro _ w1 ⟨rfl,hb1⟩;replace hcur:=keep_trans hcur hb1;replace HSA:=Lib.hid (keepq hb1 HSA.out);clear a0 a1 a2 al;obtain ⟨a0,a1,a2,al⟩:=q3 HSA.out;clear y0 y1 y2 y3 yl;obtain ⟨y0,y1,y2,y3,yl⟩:=HY.out _ hcur;clear z0 z1 z2 zl;obtain ⟨z0,z1,z2,zl⟩:=HZ.out _ hcur;clear x0 x1 x2 x3 xl;obtain ⟨x0,x1,x2,x3,xl⟩:=HX.out _ hcur)|(go_at_call 16;refine (HOP.out _ (keep_trans fB hcur)).mono ?_;rintro _ w1 ⟨vo,rfl,howno,hb1⟩;obtain ⟨ao,co,rfl⟩:=owns_shape howno;clear howno;replace hcur:=keep_trans hcur hb1;replace HSA:=Lib.hid (keepq hb1 HSA.out);clear a0 a1 a2 al;obtain ⟨a0,a1,a2,al⟩:=q3 HSA.out;clear y0 y1 y2 y3 yl;obtain ⟨y0,y1,y2,y3,yl⟩:=HY.out _ hcur;clear z0 z1 z2 zl;obtain ⟨z0,z1,z2,zl⟩:=HZ.out _ hcur;clear x0 x1 x2 x3 xl;obtain ⟨x0,x1,x2,x3,xl⟩:=HX.out _ hcur)|(go_at_call 41;refine (HES.out _).mono ?_;rintro _ w1 ⟨rfl,hb1⟩;replace hcur:=keep_trans hcur hb1;replace HSA:=Lib.hid (keepq hb1 HSA.out);clear a0 a1 a2 al;obtain ⟨a0,a1,a2,al⟩:=q3 HSA.out;clear y0 y1 y2 y3 yl;obtain ⟨y0,y1,y2,y3,yl⟩:=HY.out _ hcur;clear z0 z1 z2 zl;obtain ⟨z0,z1,z2,zl⟩:=HZ.out _ hcur;clear x0 x1 x2 x3 xl;obtain ⟨x0,x1,x2,x3,xl⟩:=HX.out _ hcur))
     clear a0 a1 a2 al HSA
     refine (HCN.out _ (keep_trans fB hcur)).mono ?_
     rintro _ w1 ⟨ar,nr,cr,af,nf,cf,rfl,hIS,hcr,hRF,hcf,hb1⟩
     replace hcur:=keep_trans hcur hb1
     clear y0 y1 y2 y3 yl
     obtain ⟨y0,y1,y2,y3,yl⟩:=HY.out _ hcur
     clear z0 z1 z2 zl
     obtain ⟨z0,z1,z2,zl⟩:=HZ.out _ hcur
     clear x0 x1 x2 x3 xl
     obtain ⟨x0,x1,x2,x3,xl⟩:=HX.out _ hcur
     go_wp2_with fail
     have psz:(w1.alloc (.cells #[.slice ar nr cr,.int .i64 S.2.1,.bool S.2.2] 68)).heap.size=w1.heap.size+1:=by simp only[World.size_alloc]
     have pB:Below w1.heap.size w1 (w1.alloc (.cells #[.slice ar nr cr,.int .i64 S.2.1,.bool S.2.2] 68)):=(Below.refl _ _).alloc (Nat.le_refl _) _
     have pq0:(w1.alloc (.cells #[.slice ar nr cr,.int .i64 S.2.1,.bool S.2.2] 68)).heap[w1.heap.size]?=some (.cells #[.slice ar nr cr,.int .i64 S.2.1,.bool S.2.2] 68 (0,0)):=by have h:=World.alloc_heap_new w1 (.cells #[.slice ar nr cr,.int .i64 S.2.1,.bool S.2.2] 68);exact h
     generalize (w1.alloc (.cells #[.slice ar nr cr,.int .i64 S.2.1,.bool S.2.2] 68))=WB at psz pB pq0 ⊢
     replace hcur:=keep_trans hcur pB
     clear y0 y1 y2 y3 yl
     obtain ⟨y0,y1,y2,y3,yl⟩:=HY.out _ hcur
     clear z0 z1 z2 zl
     obtain ⟨z0,z1,z2,zl⟩:=HZ.out _ hcur
     clear x0 x1 x2 x3 xl
     obtain ⟨x0,x1,x2,x3,xl⟩:=HX.out _ hcur
     have hb1':=pB
     have HSB:=Lib.hid pq0
     have HIS:=Lib.hid (hIS.mono pB)
     have HRF:=Lib.hid (hRF.mono pB)
     have hcB:Below WB.heap.size WB WB:=Below.refl _ _
     clear psz pq0 hIS hRF pB hb1 hb1'
     refine (HRE.out _ (keep_trans fB hcur)).mono ?_
     rintro _ w1 ⟨am,nm,cm,rfl,hRM,hcm,hb1⟩
     replace hcur:=keep_trans hcur hb1
     replace hcB:=keep_trans hcB hb1
     have HRM:=Lib.hid hRM
     clear hRM
     clear z0 z1 z2 zl
     obtain ⟨z0,z1,z2,zl⟩:=HZ.out _ hcur
     clear x0 x1 x2 x3 xl
     obtain ⟨x0,x1,x2,x3,xl⟩:=HX.out _ hcur
     clear y0 y1 y2 y3 yl hb1
     by_cases hs:sr=0
     ·subst hs
      obtain ⟨hk,hr,hdn,ht0,ht3⟩:=hST.out rfl
      have HRR:=Lib.hid (HRR.out hk ht0 ht3 h6)
      have HRN:=Lib.hid (HRN.out hk ht0 ht3)
      have HLR:=Lib.hid (hRL.out hk hr)
      have HLF:=Lib.hid (hFL.out hk hr hdn)
      have hCE:=Lib.hid (hCE.out rfl)
      rcases hR2.out rfl hk hr (by omega) with ⟨e1,e2,hl6⟩|⟨e1,e2,hl6⟩
      ·subst e1;subst e2
       have HL6:=Lib.hid hl6
       clear hSB hST hR2 hRL hFL hk hr hdn hl6 HRE HCN
       have bg1:¬B<0:=by omega
       have bg2:1000000<B:=by omega
       have hce:ce=3:=by rw[hCE.out,if_pos (.inr bg2)]
       obtain ⟨e1,e2⟩:=hCV.out (by rw[hce];decide)
       subst hce
       subst e1;subst e2
       clear hCE hCV hCO HRN HLF
       go_wp2_with (first|(go_at_call 42;refine (HRS.out _ (keep_trans fB hcur)).mono ?_;rintro _ w1 ⟨rfl,hb1⟩;replace hcur:=keep_trans hcur hb1;replace hcB:=keep_trans hcB hb1;replace HRM:=Lib.hid (HRM.out.mono hb1);clear z0 z1 z2 zl;obtain ⟨z0,z1,z2,zl⟩:=HZ.out _ hcur;clear x0 x1 x2 x3 xl;obtain ⟨x0,x1,x2,x3,xl⟩:=HX.out _ hcur)|(go_at_call 16;refine (HOP.out _ (keep_trans fB hcur)).mono ?_;rintro _ w1 ⟨vo,rfl,howno,hb1⟩;obtain ⟨ao,co,rfl⟩:=owns_shape howno;clear howno;replace hcur:=keep_trans hcur hb1;replace hcB:=keep_trans hcB hb1;replace HRM:=Lib.hid (HRM.out.mono hb1);clear z0 z1 z2 zl;obtain ⟨z0,z1,z2,zl⟩:=HZ.out _ hcur;clear x0 x1 x2 x3 xl;obtain ⟨x0,x1,x2,x3,xl⟩:=HX.out _ hcur))
       refine (HRR.out _ (keep_trans fB hcur)).mono ?_
       rintro _ w1 ⟨⟨vf,pre,rfl,hr,hall,hpl⟩,hb1⟩
       obtain ⟨a9,cs,e,hrc,hcs⟩:=hr.rc (by omega) (hr.short hall (fun l hl=>by have h1:=HLR.out l hl;have h2:=HM.out.1;omega))
       subst e
       have hpn:=congrArg List.length hall
       rw[List.length_map] at hpn
       rw[hall] at hrc
       replace hcur:=keep_trans hcur hb1
       replace hcB:=keep_trans hcB hb1
       replace HRM:=Lib.hid (HRM.out.mono hb1)
       have HRC:=Lib.hid hrc
       clear hr hall hrc
       clear z0 z1 z2 zl
       obtain ⟨z0,z1,z2,zl⟩:=HZ.out _ hcur
       clear x0 x1 x2 x3 xl
       obtain ⟨x0,x1,x2,x3,xl⟩:=HX.out _ hcur
       have hbig:(256:Int)<(pre.length:Int):=by have:=HL6.out;omega
       generalize pre.length=N at hbig HRC hcs hpl hpn ⊢
       clear HRC hpl hpn
       have HTB:=Lib.hid (fun W (h1:RC W am nm [])=>table_c am none nm 0 cm 0 [] [] W h1 (RC.none W))
       rw[sameT_refl] at HTB
       have h0:=HIS.out.len
       rw[List.length_nil] at h0
       subst h0
       have h0:=HRF.out.len
       rw[List.length_nil] at h0
       subst h0
       have HEB:=Lib.hid (fun W=>samest_c ar 0 cr [] 0 false none 0 0 [] 0 false W (IC.nil0 ar W) (IC.nil0 none W))
       rw[show sameSt [] [] 0 0 false false=true from by decide] at HEB
       go_wp2_with (first|(go_at_call 28;refine (HTB.out _ HRM.out).mono ?_;rintro _ w1 ⟨rfl,hb1⟩;replace hcur:=keep_trans hcur hb1;replace hcB:=keep_trans hcB hb1;obtain ⟨b0,b1,b2,bl⟩:=q3 (keepq hcB HSB.out))|(go_at_call 41;refine (HEB.out _).mono ?_;rintro _ w1 ⟨rfl,hb1⟩;replace hcur:=keep_trans hcur hb1)|(go_at_call 17;refine (HA.out _).mono ?_;rintro _ w1 ⟨rfl,hb1⟩;replace hcur:=keep_trans hcur hb1))
       go_ret
       exact ⟨rfl,keep_trans fB hcur⟩
      ·subst e1;subst e2
       have HL6:=Lib.hid hl6
       clear hSB hST hR2 hRL hFL hk hr hdn hl6 HRE HCN
       have bg1:¬B<0:=by omega
       have bg2:1000000<B:=by omega
       have hce:ce=3:=by rw[hCE.out,if_pos (.inr bg2)]
       obtain ⟨e1,e2⟩:=hCV.out (by rw[hce];decide)
       subst hce
       subst e1;subst e2
       clear hCE hCV hCO HRN HLF
       go_wp2_with (first|(go_at_call 42;refine (HRS.out _ (keep_trans fB hcur)).mono ?_;rintro _ w1 ⟨rfl,hb1⟩;replace hcur:=keep_trans hcur hb1;replace hcB:=keep_trans hcB hb1;replace HRM:=Lib.hid (HRM.out.mono hb1);clear z0 z1 z2 zl;obtain ⟨z0,z1,z2,zl⟩:=HZ.out _ hcur;clear x0 x1 x2 x3 xl;obtain ⟨x0,x1,x2,x3,xl⟩:=HX.out _ hcur)|(go_at_call 16;refine (HOP.out _ (keep_trans fB hcur)).mono ?_;rintro _ w1 ⟨vo,rfl,howno,hb1⟩;obtain ⟨ao,co,rfl⟩:=owns_shape howno;clear howno;replace hcur:=keep_trans hcur hb1;replace hcB:=keep_trans hcB hb1;replace HRM:=Lib.hid (HRM.out.mono hb1);clear z0 z1 z2 zl;obtain ⟨z0,z1,z2,zl⟩:=HZ.out _ hcur;clear x0 x1 x2 x3 xl;obtain ⟨x0,x1,x2,x3,xl⟩:=HX.out _ hcur))
       refine (HRR.out _ (keep_trans fB hcur)).mono ?_
       rintro _ w1 ⟨⟨vf,pre,rfl,hr,hall,hpl⟩,hb1⟩
       obtain ⟨a9,cs,e,hrc,hcs⟩:=hr.rc (by omega) (hr.short hall (fun l hl=>by have h1:=HLR.out l hl;have h2:=HM.out.1;omega))
       subst e
       have hpn:=congrArg List.length hall
       rw[List.length_map] at hpn
       rw[hall] at hrc
       replace hcur:=keep_trans hcur hb1
       replace hcB:=keep_trans hcB hb1
       replace HRM:=Lib.hid (HRM.out.mono hb1)
       have HRC:=Lib.hid hrc
       clear hr hall hrc
       clear z0 z1 z2 zl
       obtain ⟨z0,z1,z2,zl⟩:=HZ.out _ hcur
       clear x0 x1 x2 x3 xl
       obtain ⟨x0,x1,x2,x3,xl⟩:=HX.out _ hcur
       have hbig:¬(256:Int)<(pre.length:Int):=by have:=HL6.out;omega
       generalize pre.length=N at hbig HRC hcs hpl hpn ⊢
       replace hcs:=Lib.hid hcs
       clear hpl hpn
       have HTB:=Lib.hid (fun W (h1:RC W am nm ML) (h2:RC W a9 N ML)=>table_c am a9 nm N cm cs ML ML W h1 h2)
       rw[sameT_refl] at HTB
       have h0:=HIS.out.len
       rw[List.length_nil] at h0
       subst h0
       have h0:=HRF.out.len
       rw[List.length_nil] at h0
       subst h0
       have HEB:=Lib.hid (fun W=>samest_c ar 0 cr [] 0 false none 0 0 [] 0 false W (IC.nil0 ar W) (IC.nil0 none W))
       rw[show sameSt [] [] 0 0 false false=true from by decide] at HEB
       go_wp2_with (first|(go_at_call 28;refine (HTB.out _ HRM.out HRC.out).mono ?_;rintro _ w1 ⟨rfl,hb1⟩;replace hcur:=keep_trans hcur hb1;replace hcB:=keep_trans hcB hb1;obtain ⟨b0,b1,b2,bl⟩:=q3 (keepq hcB HSB.out))|(go_at_call 41;refine (HEB.out _).mono ?_;rintro _ w1 ⟨rfl,hb1⟩;replace hcur:=keep_trans hcur hb1)|(go_at_call 17;refine (HA.out _).mono ?_;rintro _ w1 ⟨rfl,hb1⟩;replace hcur:=keep_trans hcur hb1))
       go_ret
       exact ⟨rfl,keep_trans fB hcur⟩
     ·obtain ⟨e1,e2,e3,e4,e5⟩:=hSB.out hs
      have hsi:(sr==0)=false:=by simpa using hs
      clear hSB hST hR2 hRL hFL hCE hCV hCO HRN HRR HCN HRE
      subst e1;subst e2;subst e3;subst e4;subst e5
      have HTB:=Lib.hid (fun W (h1:RC W am nm [])=>table_c am none nm 0 cm 0 [] [] W h1 (RC.none W))
      rw[sameT_refl] at HTB
      have h0:=HIS.out.len
      rw[List.length_nil] at h0
      subst h0
      have h0:=HRF.out.len
      rw[List.length_nil] at h0
      subst h0
      have HEB:=Lib.hid (fun W=>samest_c ar 0 cr [] 0 false none 0 0 [] 0 false W (IC.nil0 ar W) (IC.nil0 none W))
      rw[show sameSt [] [] 0 0 false false=true from by decide] at HEB
      go_wp2_with (first|(go_at_call 42;refine (HRS.out _ (keep_trans fB hcur)).mono ?_;rintro _ w1 ⟨rfl,hb1⟩;replace hcur:=keep_trans hcur hb1;replace hcB:=keep_trans hcB hb1;replace HRM:=Lib.hid (HRM.out.mono hb1);clear z0 z1 z2 zl;obtain ⟨z0,z1,z2,zl⟩:=HZ.out _ hcur;clear x0 x1 x2 x3 xl;obtain ⟨x0,x1,x2,x3,xl⟩:=HX.out _ hcur)|(go_at_call 16;refine (HOP.out _ (keep_trans fB hcur)).mono ?_;rintro _ w1 ⟨vo,rfl,howno,hb1⟩;obtain ⟨ao,co,rfl⟩:=owns_shape howno;clear howno;replace hcur:=keep_trans hcur hb1;replace hcB:=keep_trans hcB hb1;replace HRM:=Lib.hid (HRM.out.mono hb1);clear z0 z1 z2 zl;obtain ⟨z0,z1,z2,zl⟩:=HZ.out _ hcur;clear x0 x1 x2 x3 xl;obtain ⟨x0,x1,x2,x3,xl⟩:=HX.out _ hcur)|(go_at_call 28;refine (HTB.out _ HRM.out).mono ?_;rintro _ w1 ⟨rfl,hb1⟩;replace hcur:=keep_trans hcur hb1;replace hcB:=keep_trans hcB hb1;obtain ⟨b0,b1,b2,bl⟩:=q3 (keepq hcB HSB.out))|(go_at_call 41;refine (HEB.out _).mono ?_;rintro _ w1 ⟨rfl,hb1⟩;replace hcur:=keep_trans hcur hb1)|(go_at_call 17;refine (HA.out _).mono ?_;rintro _ w1 ⟨rfl,hb1⟩;replace hcur:=keep_trans hcur hb1))
      go_ret
      exact ⟨rfl,keep_trans fB hcur⟩
    ·by_cases h16:(openL g).length≤16
     ·have o6:(6:Int)<((openL g).length:Int):=by omega
      have o16:((openL g).length:Int)≤16:=by omega
      go_wp2_with (first|(go_at_call 14;refine (HSH.out _ (keep_trans fB hcur)).mono ?_;rintro _ w1 ⟨rfl,hb1⟩;replace hcur:=keep_trans hcur hb1;replace HSA:=Lib.hid (keepq hb1 HSA.out);clear a0 a1 a2 al;obtain ⟨a0,a1,a2,al⟩:=q3 HSA.out;clear y0 y1 y2 y3 yl;obtain ⟨y0,y1,y2,y3,yl⟩:=HY.out _ hcur;clear z0 z1 z2 zl;obtain ⟨z0,z1,z2,zl⟩:=HZ.out _ hcur;clear x0 x1 x2 x3 xl;obtain ⟨x0,x1,x2,x3,xl⟩:=HX.out _ hcur)|(go_at_call 15;refine (HTK.out _ (keep_trans fB hcur)).mono ?_;rintro _ w1 ⟨rfl,hb1⟩;replace hcur:=keep_trans hcur hb1;replace HSA:=Lib.hid (keepq hb1 HSA.out);clear a0 a1 a2 al;obtain ⟨a0,a1,a2,al⟩:=q3 HSA.out;clear y0 y1 y2 y3 yl;obtain ⟨y0,y1,y2,y3,yl⟩:=HY.out _ hcur;clear z0 z1 z2 zl;obtain ⟨z0,z1,z2,zl⟩:=HZ.out _ hcur;clear x0 x1 x2 x3 xl;obtain ⟨x0,x1,x2,x3,xl⟩:=HX.out _ hcur)|(go_at_call 38;refine (HKS.out _ (keep_trans fB hcur)).mono ?_;rintro _ w1 ⟨rfl,hb1⟩;replace hcur:=keep_trans hcur hb1;replace HSA:=Lib.hid (keepq hb1 HSA.out);clear a0 a1 a2 al;obtain ⟨a0,a1,a2,al⟩:=q3 HSA.out;clear y0 y1 y2 y3 yl;obtain ⟨y0,y1,y2,y3,yl⟩:=HY.out _ hcur;clear z0 z1 z2 zl;obtain ⟨z0,z1,z2,zl⟩:=HZ.out _ hcur;clear x0 x1 x2 x3 xl;obtain ⟨x0,x1,x2,x3,xl⟩:=HX.out _ hcur)|(go_at_call 42;refine (HRS.out _ (keep_trans fB hcur)).mono ?_;rintro _ w1 ⟨rfl,hb1⟩;replace hcur:=keep_trans hcur hb1;replace HSA:=Lib.hid (keepq hb1 HSA.out);clear a0 a1 a2 al;obtain ⟨a0,a1,a2,al⟩:=q3 HSA.out;clear y0 y1 y2 y3 yl;obtain ⟨y0,y1,y2,y3,yl⟩:=HY.out _ hcur;clear z0 z1 z2 zl;obtain ⟨z0,z1,z2,zl⟩:=HZ.out _ hcur;clear x0 x1 x2 x3 xl;obtain ⟨x0,x1,x2,x3,xl⟩:=HX.out _ hcur)|(go_at_call 16;refine (HOP.out _ (keep_trans fB hcur)).mono ?_;rintro _ w1 ⟨vo,rfl,howno,hb1⟩;obtain ⟨ao,co,rfl⟩:=owns_shape howno;clear howno;replace hcur:=keep_trans hcur hb1;replace HSA:=Lib.hid (keepq hb1 HSA.out);clear a0 a1 a2 al;obtain ⟨a0,a1,a2,al⟩:=q3 HSA.out;clear y0 y1 y2 y3 yl;obtain ⟨y0,y1,y2,y3,yl⟩:=HY.out _ hcur;clear z0 z1 z2 zl;obtain ⟨z0,z1,z2,zl⟩:=HZ.out _ hcur;clear x0 x1 x2 x3 xl;obtain ⟨x0,x1,x2,x3,xl⟩:=HX.out _ hcur)|(go_at_call 41;refine (HES.out _).mono ?_;rintro _ w1 ⟨rfl,hb1⟩;replace hcur:=keep_trans hcur hb1;replace HSA:=Lib.hid (keepq hb1 HSA.out);clear a0 a1 a2 al;obtain ⟨a0,a1,a2,al⟩:=q3 HSA.out;clear y0 y1 y2 y3 yl;obtain ⟨y0,y1,y2,y3,yl⟩:=HY.out _ hcur;clear z0 z1 z2 zl;obtain ⟨z0,z1,z2,zl⟩:=HZ.out _ hcur;clear x0 x1 x2 x3 xl;obtain ⟨x0,x1,x2,x3,xl⟩:=HX.out _ hcur)|(go_at_call 17;refine (HA.out _).mono ?_;rintro _ w1 ⟨rfl,hb1⟩;replace hcur:=keep_trans hcur hb1))
      go_ret
      exact ⟨rfl,keep_trans fB hcur⟩
     ·have o6:(6:Int)<((openL g).length:Int):=by omega
      have o16:(16:Int)<((openL g).length:Int):=by omega
      have o16':¬((openL g).length:Int)≤16:=by omega
      go_wp2_with (first|(go_at_call 14;refine (HSH.out _ (keep_trans fB hcur)).mono ?_;rintro _ w1 ⟨rfl,hb1⟩;replace hcur:=keep_trans hcur hb1;replace HSA:=Lib.hid (keepq hb1 HSA.out);clear a0 a1 a2 al;obtain ⟨a0,a1,a2,al⟩:=q3 HSA.out;clear y0 y1 y2 y3 yl;obtain ⟨y0,y1,y2,y3,yl⟩:=HY.out _ hcur;clear z0 z1 z2 zl;obtain ⟨z0,z1,z2,zl⟩:=HZ.out _ hcur;clear x0 x1 x2 x3 xl;obtain ⟨x0,x1,x2,x3,xl⟩:=HX.out _ hcur)|(go_at_call 15;refine (HTK.out _ (keep_trans fB hcur)).mono ?_;rintro _ w1 ⟨rfl,hb1⟩;replace hcur:=keep_trans hcur hb1;replace HSA:=Lib.hid (keepq hb1 HSA.out);clear a0 a1 a2 al;obtain ⟨a0,a1,a2,al⟩:=q3 HSA.out;clear y0 y1 y2 y3 yl;obtain ⟨y0,y1,y2,y3,yl⟩:=HY.out _ hcur;clear z0 z1 z2 zl;obtain ⟨z0,z1,z2,zl⟩:=HZ.out _ hcur;clear x0 x1 x2 x3 xl;obtain ⟨x0,x1,x2,x3,xl⟩:=HX.out _ hcur)|(go_at_call 38;refine (HKS.out _ (keep_trans fB hcur)).mono ?_;rintro _ w1 ⟨rfl,hb1⟩;replace hcur:=keep_trans hcur hb1;replace HSA:=Lib.hid (keepq hb1 HSA.out);clear a0 a1 a2 al;obtain ⟨a0,a1,a2,al⟩:=q3 HSA.out;clear y0 y1 y2 y3 yl;obtain ⟨y0,y1,y2,y3,yl⟩:=HY.out _ hcur;clear z0 z1 z2 zl;obtain ⟨z0,z1,z2,zl⟩:=HZ.out _ hcur;clear x0 x1 x2 x3 xl;obtain ⟨x0,x1,x2,x3,xl⟩:=HX.out _ hcur)|(go_at_call 42;refine (HRS.out _ (keep_trans fB hcur)).mono ?_;rintro _ w1 ⟨rfl,hb1⟩;replace hcur:=keep_trans hcur hb1;replace HSA:=Lib.hid (keepq hb1 HSA.out);clear a0 a1 a2 al;obtain ⟨a0,a1,a2,al⟩:=q3 HSA.out;clear y0 y1 y2 y3 yl;obtain ⟨y0,y1,y2,y3,yl⟩:=HY.out _ hcur;clear z0 z1 z2 zl;obtain ⟨z0,z1,z2,zl⟩:=HZ.out _ hcur;clear x0 x1 x2 x3 xl;obtain ⟨x0,x1,x2,x3,xl⟩:=HX.out _ hcur)|(go_at_call 16;refine (HOP.out _ (keep_trans fB hcur)).mono ?_;rintro _ w1 ⟨vo,rfl,howno,hb1⟩;obtain ⟨ao,co,rfl⟩:=owns_shape howno;clear howno;replace hcur:=keep_trans hcur hb1;replace HSA:=Lib.hid (keepq hb1 HSA.out);clear a0 a1 a2 al;obtain ⟨a0,a1,a2,al⟩:=q3 HSA.out;clear y0 y1 y2 y3 yl;obtain ⟨y0,y1,y2,y3,yl⟩:=HY.out _ hcur;clear z0 z1 z2 zl;obtain ⟨z0,z1,z2,zl⟩:=HZ.out _ hcur;clear x0 x1 x2 x3 xl;obtain ⟨x0,x1,x2,x3,xl⟩:=HX.out _ hcur)|(go_at_call 41;refine (HES.out _).mono ?_;rintro _ w1 ⟨rfl,hb1⟩;replace hcur:=keep_trans hcur hb1;replace HSA:=Lib.hid (keepq hb1 HSA.out);clear a0 a1 a2 al;obtain ⟨a0,a1,a2,al⟩:=q3 HSA.out;clear y0 y1 y2 y3 yl;obtain ⟨y0,y1,y2,y3,yl⟩:=HY.out _ hcur;clear z0 z1 z2 zl;obtain ⟨z0,z1,z2,zl⟩:=HZ.out _ hcur;clear x0 x1 x2 x3 xl;obtain ⟨x0,x1,x2,x3,xl⟩:=HX.out _ hcur))
      clear a0 a1 a2 al HSA
      refine (HCN.out _ (keep_trans fB hcur)).mono ?_
      rintro _ w1 ⟨ar,nr,cr,af,nf,cf,rfl,hIS,hcr,hRF,hcf,hb1⟩
      replace hcur:=keep_trans hcur hb1
      clear y0 y1 y2 y3 yl
      obtain ⟨y0,y1,y2,y3,yl⟩:=HY.out _ hcur
      clear z0 z1 z2 zl
      obtain ⟨z0,z1,z2,zl⟩:=HZ.out _ hcur
      clear x0 x1 x2 x3 xl
      obtain ⟨x0,x1,x2,x3,xl⟩:=HX.out _ hcur
      go_wp2_with fail
      have psz:(w1.alloc (.cells #[.slice ar nr cr,.int .i64 S.2.1,.bool S.2.2] 68)).heap.size=w1.heap.size+1:=by simp only[World.size_alloc]
      have pB:Below w1.heap.size w1 (w1.alloc (.cells #[.slice ar nr cr,.int .i64 S.2.1,.bool S.2.2] 68)):=(Below.refl _ _).alloc (Nat.le_refl _) _
      have pq0:(w1.alloc (.cells #[.slice ar nr cr,.int .i64 S.2.1,.bool S.2.2] 68)).heap[w1.heap.size]?=some (.cells #[.slice ar nr cr,.int .i64 S.2.1,.bool S.2.2] 68 (0,0)):=by have h:=World.alloc_heap_new w1 (.cells #[.slice ar nr cr,.int .i64 S.2.1,.bool S.2.2] 68);exact h
      generalize (w1.alloc (.cells #[.slice ar nr cr,.int .i64 S.2.1,.bool S.2.2] 68))=WB at psz pB pq0 ⊢
      replace hcur:=keep_trans hcur pB
      clear y0 y1 y2 y3 yl
      obtain ⟨y0,y1,y2,y3,yl⟩:=HY.out _ hcur
      clear z0 z1 z2 zl
      obtain ⟨z0,z1,z2,zl⟩:=HZ.out _ hcur
      clear x0 x1 x2 x3 xl
      obtain ⟨x0,x1,x2,x3,xl⟩:=HX.out _ hcur
      have hb1':=pB
      have HSB:=Lib.hid pq0
      have HIS:=Lib.hid (hIS.mono pB)
      have HRF:=Lib.hid (hRF.mono pB)
      have hcB:Below WB.heap.size WB WB:=Below.refl _ _
      clear psz pq0 hIS hRF pB hb1 hb1'
      refine (HRE.out _ (keep_trans fB hcur)).mono ?_
      rintro _ w1 ⟨am,nm,cm,rfl,hRM,hcm,hb1⟩
      replace hcur:=keep_trans hcur hb1
      replace hcB:=keep_trans hcB hb1
      have HRM:=Lib.hid hRM
      clear hRM
      clear z0 z1 z2 zl
      obtain ⟨z0,z1,z2,zl⟩:=HZ.out _ hcur
      clear x0 x1 x2 x3 xl
      obtain ⟨x0,x1,x2,x3,xl⟩:=HX.out _ hcur
      clear y0 y1 y2 y3 yl hb1
      by_cases hs:sr=0
      ·subst hs
       obtain ⟨hk,hr,hdn,ht0,ht3⟩:=hST.out rfl
       have HRN:=Lib.hid (HRN.out hk ht0 ht3)
       have HLF:=Lib.hid (hFL.out hk hr hdn)
       have hCE:=Lib.hid (hCE.out rfl)
       obtain ⟨e1,e2⟩:=hRB.out rfl (by omega)
       subst e1;subst e2
       clear hSB hST hR2 hRL hFL hk hr hdn hRB HRR HRE HCN
       have bg1:¬B<0:=by omega
       have bg2:1000000<B:=by omega
       have hce:ce=3:=by rw[hCE.out,if_pos (.inr bg2)]
       obtain ⟨e1,e2⟩:=hCV.out (by rw[hce];decide)
       subst hce
       subst e1;subst e2
       clear hCE hCV hCO HRN HLF
       have HTB:=Lib.hid (fun W (h1:RC W am nm [])=>table_c am none nm 0 cm 0 [] [] W h1 (RC.none W))
       rw[sameT_refl] at HTB
       have h0:=HIS.out.len
       rw[List.length_nil] at h0
       subst h0
       have h0:=HRF.out.len
       rw[List.length_nil] at h0
       subst h0
       have HEB:=Lib.hid (fun W=>samest_c ar 0 cr [] 0 false none 0 0 [] 0 false W (IC.nil0 ar W) (IC.nil0 none W))
       rw[show sameSt [] [] 0 0 false false=true from by decide] at HEB
       go_wp2_with (first|(go_at_call 42;refine (HRS.out _ (keep_trans fB hcur)).mono ?_;rintro _ w1 ⟨rfl,hb1⟩;replace hcur:=keep_trans hcur hb1;replace hcB:=keep_trans hcB hb1;replace HRM:=Lib.hid (HRM.out.mono hb1);clear z0 z1 z2 zl;obtain ⟨z0,z1,z2,zl⟩:=HZ.out _ hcur;clear x0 x1 x2 x3 xl;obtain ⟨x0,x1,x2,x3,xl⟩:=HX.out _ hcur)|(go_at_call 16;refine (HOP.out _ (keep_trans fB hcur)).mono ?_;rintro _ w1 ⟨vo,rfl,howno,hb1⟩;obtain ⟨ao,co,rfl⟩:=owns_shape howno;clear howno;replace hcur:=keep_trans hcur hb1;replace hcB:=keep_trans hcB hb1;replace HRM:=Lib.hid (HRM.out.mono hb1);clear z0 z1 z2 zl;obtain ⟨z0,z1,z2,zl⟩:=HZ.out _ hcur;clear x0 x1 x2 x3 xl;obtain ⟨x0,x1,x2,x3,xl⟩:=HX.out _ hcur)|(go_at_call 28;refine (HTB.out _ HRM.out).mono ?_;rintro _ w1 ⟨rfl,hb1⟩;replace hcur:=keep_trans hcur hb1;replace hcB:=keep_trans hcB hb1;obtain ⟨b0,b1,b2,bl⟩:=q3 (keepq hcB HSB.out))|(go_at_call 41;refine (HEB.out _).mono ?_;rintro _ w1 ⟨rfl,hb1⟩;replace hcur:=keep_trans hcur hb1)|(go_at_call 17;refine (HA.out _).mono ?_;rintro _ w1 ⟨rfl,hb1⟩;replace hcur:=keep_trans hcur hb1))
       go_ret
       exact ⟨rfl,keep_trans fB hcur⟩
      ·obtain ⟨e1,e2,e3,e4,e5⟩:=hSB.out hs
       have hsi:(sr==0)=false:=by simpa using hs
       clear hSB hST hR2 hRL hFL hCE hCV hCO hRB HRN HRR HCN HRE
       subst e1;subst e2;subst e3;subst e4;subst e5
       have HTB:=Lib.hid (fun W (h1:RC W am nm [])=>table_c am none nm 0 cm 0 [] [] W h1 (RC.none W))
       rw[sameT_refl] at HTB
       have h0:=HIS.out.len
       rw[List.length_nil] at h0
       subst h0
       have h0:=HRF.out.len
       rw[List.length_nil] at h0
       subst h0
       have HEB:=Lib.hid (fun W=>samest_c ar 0 cr [] 0 false none 0 0 [] 0 false W (IC.nil0 ar W) (IC.nil0 none W))
       rw[show sameSt [] [] 0 0 false false=true from by decide] at HEB
       go_wp2_with (first|(go_at_call 42;refine (HRS.out _ (keep_trans fB hcur)).mono ?_;rintro _ w1 ⟨rfl,hb1⟩;replace hcur:=keep_trans hcur hb1;replace hcB:=keep_trans hcB hb1;replace HRM:=Lib.hid (HRM.out.mono hb1);clear z0 z1 z2 zl;obtain ⟨z0,z1,z2,zl⟩:=HZ.out _ hcur;clear x0 x1 x2 x3 xl;obtain ⟨x0,x1,x2,x3,xl⟩:=HX.out _ hcur)|(go_at_call 16;refine (HOP.out _ (keep_trans fB hcur)).mono ?_;rintro _ w1 ⟨vo,rfl,howno,hb1⟩;obtain ⟨ao,co,rfl⟩:=owns_shape howno;clear howno;replace hcur:=keep_trans hcur hb1;replace hcB:=keep_trans hcB hb1;replace HRM:=Lib.hid (HRM.out.mono hb1);clear z0 z1 z2 zl;obtain ⟨z0,z1,z2,zl⟩:=HZ.out _ hcur;clear x0 x1 x2 x3 xl;obtain ⟨x0,x1,x2,x3,xl⟩:=HX.out _ hcur)|(go_at_call 28;refine (HTB.out _ HRM.out).mono ?_;rintro _ w1 ⟨rfl,hb1⟩;replace hcur:=keep_trans hcur hb1;replace hcB:=keep_trans hcB hb1;obtain ⟨b0,b1,b2,bl⟩:=q3 (keepq hcB HSB.out))|(go_at_call 41;refine (HEB.out _).mono ?_;rintro _ w1 ⟨rfl,hb1⟩;replace hcur:=keep_trans hcur hb1)|(go_at_call 17;refine (HA.out _).mono ?_;rintro _ w1 ⟨rfl,hb1⟩;replace hcur:=keep_trans hcur hb1))
       go_ret
       exact ⟨rfl,keep_trans fB hcur⟩
   ·have hti:(te==0)=false:=by simpa using ht
    have htn:(te != 0)=true:=by simpa using ht
    rw[hKB.out ht] at HKS
    obtain ⟨e1,e2,e3,e4,e5⟩:=hBAD.out ht
    subst e1;subst e2;subst e3;subst e4;subst e5
    clear HGT HGL hKB hSE hSB hCE hCV hCO hST hRB hR2 hRL hFL HRS HRR HRN hBAD
    go_wp2_with (first|(go_at_call 15;refine (HTK.out _ (keep_trans fB hcur)).mono ?_;rintro _ w1 ⟨rfl,hb1⟩;replace hcur:=keep_trans hcur hb1;replace HSA:=Lib.hid (keepq hb1 HSA.out);clear a0 a1 a2 al;obtain ⟨a0,a1,a2,al⟩:=q3 HSA.out;clear y0 y1 y2 y3 yl;obtain ⟨y0,y1,y2,y3,yl⟩:=HY.out _ hcur;clear z0 z1 z2 zl;obtain ⟨z0,z1,z2,zl⟩:=HZ.out _ hcur;clear x0 x1 x2 x3 xl;obtain ⟨x0,x1,x2,x3,xl⟩:=HX.out _ hcur)|(go_at_call 38;refine (HKS.out _ (keep_trans fB hcur)).mono ?_;rintro _ w1 ⟨rfl,hb1⟩;replace hcur:=keep_trans hcur hb1;replace HSA:=Lib.hid (keepq hb1 HSA.out);clear a0 a1 a2 al;obtain ⟨a0,a1,a2,al⟩:=q3 HSA.out;clear y0 y1 y2 y3 yl;obtain ⟨y0,y1,y2,y3,yl⟩:=HY.out _ hcur;clear z0 z1 z2 zl;obtain ⟨z0,z1,z2,zl⟩:=HZ.out _ hcur;clear x0 x1 x2 x3 xl;obtain ⟨x0,x1,x2,x3,xl⟩:=HX.out _ hcur))
    refine (HCN.out _ (keep_trans fB hcur)).mono ?_
    rintro _ w1 ⟨ar,nr,cr,af,nf,cf,rfl,hIS,hcr,hRF,hcf,hb1⟩
    replace hcur:=keep_trans hcur hb1
    replace HSA:=Lib.hid (keepq hb1 HSA.out)
    clear a0 a1 a2 al
    obtain ⟨a0,a1,a2,al⟩:=q3 HSA.out
    have h0:=hIS.len
    rw[List.length_nil] at h0
    subst h0
    have h0:=hRF.len
    rw[List.length_nil] at h0
    subst h0
    clear y0 y1 y2 y3 yl
    obtain ⟨y0,y1,y2,y3,yl⟩:=HY.out _ hcur
    clear z0 z1 z2 zl
    obtain ⟨z0,z1,z2,zl⟩:=HZ.out _ hcur
    clear x0 x1 x2 x3 xl
    obtain ⟨x0,x1,x2,x3,xl⟩:=HX.out _ hcur
    go_wp2_with fail
    have psz:(w1.alloc (.cells #[.slice ar 0 cr,.int .i64 0,.bool false] 68)).heap.size=w1.heap.size+1:=by simp only[World.size_alloc]
    have pB:Below w1.heap.size w1 (w1.alloc (.cells #[.slice ar 0 cr,.int .i64 0,.bool false] 68)):=(Below.refl _ _).alloc (Nat.le_refl _) _
    have pq0:(w1.alloc (.cells #[.slice ar 0 cr,.int .i64 0,.bool false] 68)).heap[w1.heap.size]?=some (.cells #[.slice ar 0 cr,.int .i64 0,.bool false] 68 (0,0)):=by have h:=World.alloc_heap_new w1 (.cells #[.slice ar 0 cr,.int .i64 0,.bool false] 68);exact h
    generalize (w1.alloc (.cells #[.slice ar 0 cr,.int .i64 0,.bool false] 68))=WB at psz pB pq0 ⊢
    replace hcur:=keep_trans hcur pB
    clear y0 y1 y2 y3 yl
    obtain ⟨y0,y1,y2,y3,yl⟩:=HY.out _ hcur
    clear z0 z1 z2 zl
    obtain ⟨z0,z1,z2,zl⟩:=HZ.out _ hcur
    clear x0 x1 x2 x3 xl
    obtain ⟨x0,x1,x2,x3,xl⟩:=HX.out _ hcur
    replace HSA:=Lib.hid (keepq pB HSA.out)
    clear a0 a1 a2 al
    obtain ⟨a0,a1,a2,al⟩:=q3 HSA.out
    have HSB:=Lib.hid pq0
    have hcB:Below WB.heap.size WB WB:=Below.refl _ _
    clear psz pq0 hIS hRF pB hb1
    refine (HRE.out _ (keep_trans fB hcur)).mono ?_
    rintro _ w1 ⟨am,nm,cm,rfl,hRM,hcm,hb1⟩
    replace hcur:=keep_trans hcur hb1
    replace HSA:=Lib.hid (keepq hb1 HSA.out)
    clear a0 a1 a2 al
    obtain ⟨a0,a1,a2,al⟩:=q3 HSA.out
    replace hcB:=keep_trans hcB hb1
    have HRM:=Lib.hid hRM
    clear hRM
    clear y0 y1 y2 y3 yl
    obtain ⟨y0,y1,y2,y3,yl⟩:=HY.out _ hcur
    clear z0 z1 z2 zl
    obtain ⟨z0,z1,z2,zl⟩:=HZ.out _ hcur
    clear x0 x1 x2 x3 xl
    obtain ⟨x0,x1,x2,x3,xl⟩:=HX.out _ hcur
    have h0:=HRM.out.len
    rw[List.length_nil] at h0
    subst h0
    clear HRM
    obtain ⟨b0,b1,b2,bl⟩:=q3 (keepq hcB HSB.out)
    have HES:=Lib.hid (fun (q:Option Addr) (cq:Nat) W=>samest_c q 0 cq [] 0 false none 0 0 [] 0 false W (IC.nil0 q W) (IC.nil0 none W))
    rw[show sameSt [] [] 0 0 false false=true from by decide] at HES
    go_wp2_with (first|(go_at_call 41;refine (HES.out _ _ _).mono ?_;rintro _ w1 ⟨rfl,hb1⟩;replace hcur:=keep_trans hcur hb1;replace HSA:=Lib.hid (keepq hb1 HSA.out);clear a0 a1 a2 al;obtain ⟨a0,a1,a2,al⟩:=q3 HSA.out;replace hcB:=keep_trans hcB hb1;clear b0 b1 b2 bl;obtain ⟨b0,b1,b2,bl⟩:=q3 (keepq hcB HSB.out))|(go_at_call 17;refine (HA.out _).mono ?_;rintro _ w1 ⟨rfl,hb1⟩;replace hcur:=keep_trans hcur hb1))
    go_ret
    exact ⟨rfl,keep_trans fB hcur⟩
end
end Go.Proofs.YtcblpobiefmjmaaGreat
