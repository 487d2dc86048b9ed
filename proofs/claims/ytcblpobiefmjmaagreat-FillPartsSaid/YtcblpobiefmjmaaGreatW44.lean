/- Texts Y2 to Y2 of this proof, in one file. -/
import Derived.Test.YtcblpobiefmjmaaGreatW43
namespace Go.Proofs.YtcblpobiefmjmaaGreat
set_option maxRecDepth 100000
set_option maxHeartbeats 16000000
section
open Go Go.RowKit Go.Shelf
attribute [local go_sem] over_cell
attribute [local go_sem] Oper.semAt_some
theorem contO_c {cells:Int} {ls:List (List Int)} {sum:Int} {g:List Int} (G:GoodTask cells ls sum g) (a:Option Addr) (n c:Nat) (a':Option Addr) (n' c':Nat) (ap:Option Addr) (np cp:Nat) (P:List Int) (tried:Int) (B:Int) (w:World) (h:RC w a n ls) (hcap:n≤c) (h':IC w a' n' g) (hcap':n'≤c') (hP:IC w ap np P) (hcp:np≤cp)
  (hst:stateE cells ls sum g P tried false=0) (ht0:0≤tried) (hB1:0<B) (hB2:B≤1000000) (ht:tried+B≤999999999) (hop:(openL g).length=0) :
  Calls Tryz.prog 39 #[.agg #[.int .i64 cells,.slice a n c,.int .i64 sum,.slice a' n' c'],.agg #[.slice ap np cp,.int .i64 tried,.bool false],.int .i64 B] w fun e w'=>∃af nf cf,e = .returned (.tuple #[.agg #[.slice none 0 0,.int .i64 tried,.bool true],.slice af nf cf,.int .i64 0])∧RC w' af nf ((solsL ls sum g []).take 1)∧nf≤cf∧FreshR w.heap.size w' (.slice af nf cf) ((solsL ls sum g []).take 1)∧Below w.heap.size w w':=by
 have H:=Lib.hid h
 have H':=Lib.hid h'
 have HG:=Lib.hid G
 have hgl:=Lib.hid h'.len
 have hn2:n'≤256:=by have:=G.glen;have:=h'.len;omega
 have hn1:n≤1000000:=by have:=G.lines;have:=h.len;omega
 have HKS:=Lib.hid (fun w1 (hb:Below w.heap.size w w1)=>kstate_c a n c ls cells sum a' n' c' g ap np cp P tried false w1 (h.mono hb) hcap (h'.mono hb) hcap' (hP.mono hb) hcp)
 rw[hst] at HKS
 clear h h' hP G hst
 go_enter Tryz.func39,Tryz.ntmps39
 go_wp2_with fail
 go_step3
 go_wp2_with fail
 have fsz:(((w.alloc (.cells #[.int .i64 cells,.slice a n c,.int .i64 sum,.slice a' n' c'] 27)).alloc (.cells #[.slice ap np cp,.int .i64 tried,.bool false] 68)).alloc (.cells #[.slice none 0 0,.int .i64 0,.bool false] 68)).heap.size=w.heap.size+3:=by simp only[World.size_alloc] <;> omega
 have fB:Below w.heap.size w (((w.alloc (.cells #[.int .i64 cells,.slice a n c,.int .i64 sum,.slice a' n' c'] 27)).alloc (.cells #[.slice ap np cp,.int .i64 tried,.bool false] 68)).alloc (.cells #[.slice none 0 0,.int .i64 0,.bool false] 68)):=(((Below.refl _ _).alloc (Nat.le_refl _) _).alloc (by simp only[World.size_alloc];omega) _).alloc (by simp only[World.size_alloc];omega) _
 have fq0:(((w.alloc (.cells #[.int .i64 cells,.slice a n c,.int .i64 sum,.slice a' n' c'] 27)).alloc (.cells #[.slice ap np cp,.int .i64 tried,.bool false] 68)).alloc (.cells #[.slice none 0 0,.int .i64 0,.bool false] 68)).heap[w.heap.size]?=some (.cells #[.int .i64 cells,.slice a n c,.int .i64 sum,.slice a' n' c'] 27 (0,0)):=by have h:=World.alloc_heap_new w (.cells #[.int .i64 cells,.slice a n c,.int .i64 sum,.slice a' n' c'] 27);exact (Below.heap_alloc _ _ _ (by simp only[World.size_alloc];omega)).trans ((Below.heap_alloc _ _ _ (by simp only[World.size_alloc];omega)).trans (h))
 have fq1:(((w.alloc (.cells #[.int .i64 cells,.slice a n c,.int .i64 sum,.slice a' n' c'] 27)).alloc (.cells #[.slice ap np cp,.int .i64 tried,.bool false] 68)).alloc (.cells #[.slice none 0 0,.int .i64 0,.bool false] 68)).heap[w.heap.size+1]?=some (.cells #[.slice ap np cp,.int .i64 tried,.bool false] 68 (0,0)):=by have h:=World.alloc_heap_new (w.alloc (.cells #[.int .i64 cells,.slice a n c,.int .i64 sum,.slice a' n' c'] 27)) (.cells #[.slice ap np cp,.int .i64 tried,.bool false] 68);simp only[World.size_alloc] at h;exact (Below.heap_alloc _ _ _ (by simp only[World.size_alloc];omega)).trans (h)
 have fq2:(((w.alloc (.cells #[.int .i64 cells,.slice a n c,.int .i64 sum,.slice a' n' c'] 27)).alloc (.cells #[.slice ap np cp,.int .i64 tried,.bool false] 68)).alloc (.cells #[.slice none 0 0,.int .i64 0,.bool false] 68)).heap[w.heap.size+1+1]?=some (.cells #[.slice none 0 0,.int .i64 0,.bool false] 68 (0,0)):=by have h:=World.alloc_heap_new ((w.alloc (.cells #[.int .i64 cells,.slice a n c,.int .i64 sum,.slice a' n' c'] 27)).alloc (.cells #[.slice ap np cp,.int .i64 tried,.bool false] 68)) (.cells #[.slice none 0 0,.int .i64 0,.bool false] 68);simp only[World.size_alloc] at h;exact h
 generalize (((w.alloc (.cells #[.int .i64 cells,.slice a n c,.int .i64 sum,.slice a' n' c'] 27)).alloc (.cells #[.slice ap np cp,.int .i64 tried,.bool false] 68)).alloc (.cells #[.slice none 0 0,.int .i64 0,.bool false] 68))=W0 at fsz fB fq0 fq1 fq2 ⊢
 have fsz':w.heap.size+2<W0.heap.size:=by omega
 have HQ0:=Lib.hid fq0
 have HQ1:=Lib.hid fq1
 have HQR:=Lib.hid fq2
 clear fsz fq0 fq1 fq2
 refine (HKS.out W0 fB).mono ?_
 rintro _ w1 ⟨rfl,hb1⟩
 have hd1:¬B<0:=by omega
 have hd2:decide (B<0)=false:=decide_eq_false (by omega)
 have hd3:decide ((1000000:Int)<B)=false:=decide_eq_false (by omega)
 have hd4:decide ((999999999:Int)<tried+B)=false:=decide_eq_false (by omega)
 have hfl:firstL [whenV false 3,whenV false 4]=0:=by decide
 have hB0:(B==0)=false:=beq_eq_false_iff_ne.2 (by omega)
 have x0:w1.cell? ⟨w.heap.size,0,none⟩=some (.int .i64 cells):=q_cell (keepq hb1 HQ0.out) 0
 have x1:w1.cell? ⟨w.heap.size,1,none⟩=some (.slice a n c):=q_cell (keepq hb1 HQ0.out) 1
 have x2:w1.cell? ⟨w.heap.size,2,none⟩=some (.int .i64 sum):=q_cell (keepq hb1 HQ0.out) 2
 have x3:w1.cell? ⟨w.heap.size,3,none⟩=some (.slice a' n' c'):=q_cell (keepq hb1 HQ0.out) 3
 have y1:w1.cell? ⟨w.heap.size+1,1,none⟩=some (.int .i64 tried):=q_cell (keepq hb1 HQ1.out) 1
 have y2:w1.cell? ⟨w.heap.size+1,2,none⟩=some (.bool false):=q_cell (keepq hb1 HQ1.out) 2
 have xl:=q_lt (keepq hb1 HQ0.out)
 have yl:=q_lt (keepq hb1 HQ1.out)
 clear HKS
 go_wp2_with fail
 refine wp_region_S (fun w'=>∃u,w'=over (w1) u) [15,14,13,12] [(0,0),(0,1),(0,2),(0,3),(0,4),(0,5),(0,7),(0,8),(0,9),(0,10),(0,11),(1,6),(2,12),(2,13),(2,14),(2,15)] (by kernel_rfl) (by kernel_rfl) (by exact ⟨_,below_over (by repeat (first|assumption|exact Below.refl _ _|refine keep_drew ?_|refine keep_alloc ?_ _|refine keep_trans ?_ (by assumption)))⟩) ?_
 dsimp only[pickOps,nthOp]
 repeat (first|(refine wpS_skip rfl (fun K hK=>?_);go_big_quiet_op;refine hK _ ?_;clear hK K)|(refine wpS_quiet rfl rfl (fun K hK=>?_);go_big_quiet_op;refine hK _ ?_;clear hK K)|(refine wpS_loud ?_;go_wp2_with (first|(go_at_call 69;refine (when_c _ _ _).mono ?_;rintro _ w2 ⟨rfl,rfl⟩)|(go_at_call 79;refine (first_c _ _ _ _ _ ((IC.new2 _ _ _ _).mono (keep_drew (Below.refl _ _)))).mono ?_;rintro _ w4 ⟨rfl,rfl⟩));refine ⟨?_,?_⟩;focus (exact ⟨_,below_over (by repeat (first|assumption|exact Below.refl _ _|refine keep_drew ?_|refine keep_alloc ?_ _|refine keep_trans ?_ (by assumption)))⟩)))
 refine wpS_late _ _ _ rfl ?_
 dsimp only[List.map]
 go_wp2_with (first|(go_at_call 69;refine (when_c _ _ _).mono ?_;rintro _ w2 ⟨rfl,rfl⟩)|(go_at_call 79;refine (first_c _ _ _ _ _ ((IC.new2 _ _ _ _).mono (keep_drew (Below.refl _ _)))).mono ?_;rintro _ w4 ⟨rfl,rfl⟩))
 refine NoPanic.normal ?_
 go_wp2_with fail
 generalize hW5:(w1.alloc (.cells #[.int .i64 (whenV false 3),.int .i64 (whenV false 4)] 34)).drew=w5
 have hb5:Below w1.heap.size w1 w5:=by rw[← hW5];exact ((Below.refl _ _).alloc (Nat.le_refl _) _).drew
 clear hW5
 have hB5:=hb1.trans (hb5.mono hb1.size)
 have hBW5:=fB.trans (hB5.mono fB.size)
 have hz5:=hB5.size
 have hOlt:∀k,k<w.heap.size→k<w5.heap.size:=fun k hk=>by omega
 have HSO:=Lib.hid (searchOf_c a n c ls cells sum a' n' c' g w5 (H.out.mono hBW5) hcap hn1 (H'.out.mono hBW5) hn2 (fun k hk=>by have:=HG.out.num k (by have:=hgl.out;omega);have:=HG.out.cells2;omega) (fun l hl=>by have h1:=HG.out.lineLen hl;have h2:=HG.out.len;have h3:=hgl.out;exact ⟨h1.1,fun x hx=>by have:=h1.2 x hx;omega⟩) (fun k=>k<w.heap.size) hOlt (old_lines H.out hBW5))
 clear x0 x1 x2 x3 y1 y2 xl yl hd1 hd2 hd3 hd4 hfl
 refine HSO.out.mono ?_
 rintro _ w6 ⟨b,Im,ao,co,al,cl,vf,rfl,hsr,hb6,hbge,hvge,himge⟩
 have hB6:=hB5.trans (hb6.mono hB5.size)
 have hBW6:=fB.trans (hB6.mono fB.size)
 have HEV:Hid (Even ⟨cells,a,n,c,ls,sum,a',n',c',g,ao,co,al,cl⟩):=HG.out.even
 have y1:w6.cell? ⟨w.heap.size+1,1,none⟩=some (.int .i64 tried):=q_cell (keepq hB6 HQ1.out) 1
 have yl:=q_lt (keepq hB6 HQ1.out)
 have s4:w6.cell? ⟨b,4,none⟩=some (.slice ao (openL g).length co):=hsr.c4
 rw[hop] at s4
 have sl:=hsr.lt
 have hge6:∀k,Mut b vf (.slice none 0 0) k→W0.heap.size≤k:=by
  rintro k (e|e|e)
  ·omega
  ·have:=hvge k e;omega
  ·cases e
 have HGE:=Lib.hid hge6
 have HSR:=Lib.hid hsr
 have hz6:=hB6.size
 clear hsr hvge himge HSO hge6
 go_wp2_with fail
 clear y1 yl
 have HSC:=Lib.hid (fun W=>solutions_c b W)
 have HFW:=Lib.hid (fun W bx (hb:Below w6.heap.size w6 W) (hx:W.cell? ⟨bx,0,none⟩=some (.pointer (some ⟨b,0,none⟩))) (hbx:bx<W.heap.size) (hge:w6.heap.size≤bx)=>few_r b bx Im ⟨cells,a,n,c,ls,sum,a',n',c',g,ao,co,al,cl⟩ vf (.slice none 0 0) [] W (HSR.out.below hb) HEV.out hx hbx (fun e=>by have:=HSR.out.mutLt e;omega) W0.heap.size (by have:=hb.size;omega) HGE.out 1 (by decide) (by decide))
 have y1:W0.cell? ⟨w.heap.size+1,1,none⟩=some (.int .i64 tried):=q_cell HQ1.out 1
 have yl:w.heap.size+1<W0.heap.size:=by omega
 refine wp_region_T (fun w'=>∃u,w'=over (W0) u) [0,3] [6,7,8] [(0,1),(0,2),(1,4),(1,5),(2,6),(2,7),(2,8)] (by kernel_rfl) (by kernel_rfl) (by exact ⟨_,below_over (by repeat (first|assumption|exact Below.refl _ _|refine keep_drew ?_|refine keep_alloc ?_ _|refine keep_trans ?_ (by assumption)))⟩) ?_
 dsimp only[pickF,nthOp]
 repeat (first|(refine wpF_skip rfl (fun K hK=>?_);go_big_quiet_op;refine hK _ ?_;clear hK K)|(refine wpF_quiet rfl rfl (fun K hK=>?_);go_big_quiet_op;refine hK _ ?_;clear hK K))
 refine wpF_end ?_
 dsimp only[pickOps,nthOp]
 repeat (first|(refine wpS_skip rfl (fun K hK=>?_);go_big_quiet_op;refine hK _ ?_;clear hK K)|(refine wpS_quiet rfl rfl (fun K hK=>?_);go_big_quiet_op;refine hK _ ?_;clear hK K)|(refine wpS_loud ?_;go_wp2_with (first|(go_at_call 87;refine (HSC.out _).mono ?_;rintro _ w7 ⟨rfl,rfl⟩)|(go_at_call 80;refine (HFW.out _ _ (keep_alloc (keep_drew (Below.refl _ _)) _) ((box_cells _ _ _ 0).trans rfl) (by simp) (by simp)).mono ?_;rintro _ w8 ⟨v8,pre,rfl,hrow8,hall8,hlen8,hb8⟩;have hB8:Below W0.heap.size W0 w8:=(keep_alloc (keep_drew hB6) _).trans hb8;obtain ⟨a8,c8,rfl⟩:=owns_shape hrow8.1;have hQR8:=Lib.hid (keepq hB8 HQR.out);have rl:=q_lt hQR8.out;have r0:w8.cell? ⟨w.heap.size+1+1,0,none⟩=some (.slice none 0 0):=q_cell hQR8.out 0;have r1:w8.cell? ⟨w.heap.size+1+1,1,none⟩=some (.int .i64 0):=q_cell hQR8.out 1;have r2:w8.cell? ⟨w.heap.size+1+1,2,none⟩=some (.bool false):=q_cell hQR8.out 2;have rf0:=q_free hQR8.out 0;have rf1:=q_free hQR8.out 1;have rf2:=q_free hQR8.out 2));refine ⟨?_,?_⟩;focus (exact ⟨_,below_over (by repeat (first|assumption|exact Below.refl _ _|refine keep_drew ?_|refine keep_alloc ?_ _|refine keep_trans ?_ (by assumption)))⟩)))
 refine wpS_late _ _ _ rfl ?_
 dsimp only[List.map]
 go_wp2_with (first|(go_at_call 87;refine (HSC.out _).mono ?_;rintro _ w7 ⟨rfl,rfl⟩)|(go_at_call 80;refine (HFW.out _ _ (keep_alloc (keep_drew (Below.refl _ _)) _) ((box_cells _ _ _ 0).trans rfl) (by simp) (by simp)).mono ?_;rintro _ w8 ⟨v8,pre,rfl,hrow8,hall8,hlen8,hb8⟩;have hB8:Below W0.heap.size W0 w8:=(keep_alloc (keep_drew hB6) _).trans hb8;obtain ⟨a8,c8,rfl⟩:=owns_shape hrow8.1;have hQR8:=Lib.hid (keepq hB8 HQR.out);have rl:=q_lt hQR8.out;have r0:w8.cell? ⟨w.heap.size+1+1,0,none⟩=some (.slice none 0 0):=q_cell hQR8.out 0;have r1:w8.cell? ⟨w.heap.size+1+1,1,none⟩=some (.int .i64 0):=q_cell hQR8.out 1;have r2:w8.cell? ⟨w.heap.size+1+1,2,none⟩=some (.bool false):=q_cell hQR8.out 2;have rf0:=q_free hQR8.out 0;have rf1:=q_free hQR8.out 1;have rf2:=q_free hQR8.out 2))
 refine NoPanic.normal ?_
 have r:=q_set (i:=2) (q_set (i:=1) (q_set (i:=0) hQR8.out (.slice none 0 0)) (.int .i64 tried)) (.bool true)
 have z0:=q_cell r 0
 have z1:=q_cell r 1
 have z2:=q_cell r 2
 have hwz:w.heap.size+2<(w6.drew.alloc (.cells #[.pointer (some ⟨b,0,none⟩)] 139)).heap.size:=by simp;omega
 have hr9:=((hrow8.setCell (b:=w.heap.size+1+1) (i:=0) (by omega) (.slice none 0 0)).setCell (b:=w.heap.size+1+1) (i:=1) (by omega) (.int .i64 tried)).setCell (b:=w.heap.size+1+1) (i:=2) (by omega) (.bool true)
 obtain ⟨av2,cv2,e2,hrc,hcv⟩:=hr9.rc (by omega) (fun x hx=>by
  have h1:x.2∈(solsL ls sum g []).take 1:=by rw[show (solsL ls sum g []).take 1=pre.map Prod.snd from hall8.symm];exact List.mem_map.2 ⟨x,hx,rfl⟩
  have h2:=sols_len (List.mem_of_mem_take h1)
  have h3:=hgl.out
  omega)
 cases e2
 rw[show pre.map Prod.snd=(solsL ls sum g []).take 1 from hall8] at hrc
 have HRC:=Lib.hid hrc
 have HFR:Hid (FreshR w.heap.size _ (.slice a8 pre.length c8) ((solsL ls sum g []).take 1)):=⟨pre,hr9.free (by have:=fB.size;omega),hall8,by
  have h1:=congrArg List.length (show pre.map Prod.snd=(solsL ls sum g []).take 1 from hall8)
  rw[List.length_map,List.length_take] at h1
  omega⟩
 clear hr9 hrc r hrow8 hall8 hwz
 go_wp2_with fail
 rw[Exit.noGoto_ret]
 refine bodyPost_ret (v := .tuple #[.agg #[.slice none 0 0,.int .i64 tried,.bool true],.slice a8 pre.length c8,.int .i64 0]) ?_ rfl ?_
 ·simp[results,Tryz.f39,go_sem,z0,z1,z2]
 ·exact ⟨a8,pre.length,c8,rfl,HRC.out,hcv,HFR.out,(((fB.trans (hB8.mono fB.size)).setCell (p:=⟨w.heap.size+1+1,0,none⟩) (by show w.heap.size≤w.heap.size+1+1;omega) _).setCell (p:=⟨w.heap.size+1+1,1,none⟩) (by show w.heap.size≤w.heap.size+1+1;omega) _).setCell (p:=⟨w.heap.size+1+1,2,none⟩) (by show w.heap.size≤w.heap.size+1+1;omega) _⟩
def frestE (cells:Int) (ls:List (List Int)) (sum:Int) (g P:List Int) (t:Int) (d:Bool):Int:=firstL [stateE cells ls sum g P t d,whenV (decide (16<((openL g).length:Int))) 20]
def frestX (cells:Int) (ls:List (List Int)) (sum:Int) (g P:List Int) (t:Int) (d:Bool):Int :=
 if (frestE cells ls sum g P t d != 0)=true then frestE cells ls sum g P t d else if d=true then 0 else if 256<(solsL ls sum g P).length then 5 else 0
def frestL (cells:Int) (ls:List (List Int)) (sum:Int) (g P:List Int) (t:Int) (d:Bool):List (List Int) :=
 if (frestE cells ls sum g P t d != 0)=true then [] else if d=true then [] else if 256<(solsL ls sum g P).length then [] else solsL ls sum g P
theorem frest_c (a:Option Addr) (n c:Nat) (ls:List (List Int)) (cells sum:Int) (a':Option Addr) (n' c':Nat) (g:List Int) (ap:Option Addr) (np cp:Nat) (P:List Int) (tried:Int) (d:Bool) (w:World) (h:RC w a n ls) (hcap:n≤c) (h':IC w a' n' g) (hcap':n'≤c') (hP:IC w ap np P) (hcp:np≤cp) :
  Calls Tryz.prog 40 #[.agg #[.int .i64 cells,.slice a n c,.int .i64 sum,.slice a' n' c'],.agg #[.slice ap np cp,.int .i64 tried,.bool d]] w fun e w'=>∃ar nr cr,e = .returned (.tuple #[.slice ar nr cr,.int .i64 (frestX cells ls sum g P tried d)])∧RC w' ar nr (frestL cells ls sum g P tried d)∧nr≤cr∧Below w.heap.size w w':=by
 have H:=Lib.hid h
 have H':=Lib.hid h'
 have HP:=Lib.hid hP
 have hgl:=Lib.hid h'.len
 have hpl:=Lib.hid hP.len
 have hol:(openL g).length≤n':=by have:=openTo_len g g.length;have:=h'.len;unfold openL;omega
 have hsm:=h'.small
 have hX:Hid (frestX cells ls sum g P tried d=if (frestE cells ls sum g P tried d != 0)=true then frestE cells ls sum g P tried d else if d=true then 0 else if 256<(solsL ls sum g P).length then 5 else 0):=rfl
 have hL:Hid (frestL cells ls sum g P tried d=if (frestE cells ls sum g P tried d != 0)=true then [] else if d=true then [] else if 256<(solsL ls sum g P).length then [] else solsL ls sum g P):=rfl
 have hE:Hid (frestE cells ls sum g P tried d=firstL [stateE cells ls sum g P tried d,whenV (decide (16<((openL g).length:Int))) 20]):=rfl
 have hst0:Hid (frestE cells ls sum g P tried d=0→stateE cells ls sum g P tried d=0):=fun e=>firstL_zero e _ (by simp)
 have hstE:Hid (stateE cells ls sum g P tried d=0→GoodTask cells ls sum g∧P.length≤(openL g).length∧pathErr g.length g P=0):=fun e=>by
  have hte:taskErr cells ls sum g=0:=by
   unfold stateE at e
   by_cases e2:taskErr cells ls sum g=0
   ·exact e2
   ·rw[if_pos e2] at e;exact absurd e e2
  refine ⟨goodTask hte,?_⟩
  unfold stateE at e
  rw[if_neg (by simpa using hte)] at e
  unfold stateErr at e
  by_cases e2:headErr g P tried d=0
  ·exact headErr_len e2
  ·rw[if_pos e2] at e;exact absurd e e2
 have HKS:=Lib.hid (fun w1 (hb:Below w.heap.size w w1)=>kstate_c a n c ls cells sum a' n' c' g ap np cp P tried d w1 (h.mono hb) hcap (h'.mono hb) hcap' (hP.mono hb) hcp)
 have HOP:=Lib.hid (fun w1 (hb:Below w.heap.size w w1)=>open_c (.slice a n c) cells sum a' n' c' g w1 (h'.mono hb))
 generalize frestX cells ls sum g P tried d=FX at hX ⊢
 generalize frestL cells ls sum g P tried d=FL at hL ⊢
 generalize frestE cells ls sum g P tried d=fe at hX hL hE hst0
 generalize stateE cells ls sum g P tried d=se at hE hst0 hstE HKS
 clear h h' hP
 go_enter Tryz.func40,Tryz.ntmps40
 go_upto_region 1 with fail
 have fsz:((w.alloc (.cells #[.int .i64 cells,.slice a n c,.int .i64 sum,.slice a' n' c'] 27)).alloc (.cells #[.slice ap np cp,.int .i64 tried,.bool d] 68)).heap.size=w.heap.size+2:=by simp only[World.size_alloc] <;> omega
 have fB:Below w.heap.size w ((w.alloc (.cells #[.int .i64 cells,.slice a n c,.int .i64 sum,.slice a' n' c'] 27)).alloc (.cells #[.slice ap np cp,.int .i64 tried,.bool d] 68)):=((Below.refl _ _).alloc (Nat.le_refl _) _).alloc (by simp only[World.size_alloc];omega) _
 have fq0:((w.alloc (.cells #[.int .i64 cells,.slice a n c,.int .i64 sum,.slice a' n' c'] 27)).alloc (.cells #[.slice ap np cp,.int .i64 tried,.bool d] 68)).heap[w.heap.size]?=some (.cells #[.int .i64 cells,.slice a n c,.int .i64 sum,.slice a' n' c'] 27 (0,0)):=by have h:=World.alloc_heap_new w (.cells #[.int .i64 cells,.slice a n c,.int .i64 sum,.slice a' n' c'] 27);exact (Below.heap_alloc _ _ _ (by simp only[World.size_alloc];omega)).trans (h)
 have fq1:((w.alloc (.cells #[.int .i64 cells,.slice a n c,.int .i64 sum,.slice a' n' c'] 27)).alloc (.cells #[.slice ap np cp,.int .i64 tried,.bool d] 68)).heap[w.heap.size+1]?=some (.cells #[.slice ap np cp,.int .i64 tried,.bool d] 68 (0,0)):=by have h:=World.alloc_heap_new (w.alloc (.cells #[.int .i64 cells,.slice a n c,.int .i64 sum,.slice a' n' c'] 27)) (.cells #[.slice ap np cp,.int .i64 tried,.bool d] 68);simp only[World.size_alloc] at h;exact h
 generalize ((w.alloc (.cells #[.int .i64 cells,.slice a n c,.int .i64 sum,.slice a' n' c'] 27)).alloc (.cells #[.slice ap np cp,.int .i64 tried,.bool d] 68))=W0 at fsz fB fq0 fq1 ⊢
 have fsz':w.heap.size+1<W0.heap.size:=by omega
 have HQ0:=Lib.hid fq0
 have HQ1:=Lib.hid fq1
 have x0:W0.cell? ⟨w.heap.size,0,none⟩=some (.int .i64 cells):=q_cell fq0 0
 have x1:W0.cell? ⟨w.heap.size,1,none⟩=some (.slice a n c):=q_cell fq0 1
 have x2:W0.cell? ⟨w.heap.size,2,none⟩=some (.int .i64 sum):=q_cell fq0 2
 have x3:W0.cell? ⟨w.heap.size,3,none⟩=some (.slice a' n' c'):=q_cell fq0 3
 have y0:W0.cell? ⟨w.heap.size+1,0,none⟩=some (.slice ap np cp):=q_cell fq1 0
 have y1:W0.cell? ⟨w.heap.size+1,1,none⟩=some (.int .i64 tried):=q_cell fq1 1
 have y2:W0.cell? ⟨w.heap.size+1,2,none⟩=some (.bool d):=q_cell fq1 2
 have xl:=q_lt fq0
 have yl:=q_lt fq1
 clear fsz fq0 fq1
 have HKS2:=Lib.hid (fun w1 (hb:Below W0.heap.size W0 w1)=>HKS.out w1 (keep_trans fB hb))
 have HOP2:=Lib.hid (fun w1 (hb:Below W0.heap.size W0 w1)=>HOP.out w1 (keep_trans fB hb))
 clear HKS HOP
 refine wp_region_S (fun w'=>∃u,w'=over (W0) u) [10,9,8,7] [(0,0),(0,1),(0,3),(1,2),(1,4),(0,5),(0,6),(2,7),(2,8),(2,9),(2,10)] (by kernel_rfl) (by kernel_rfl) (by exact ⟨_,below_over (by repeat (first|assumption|exact Below.refl _ _|refine keep_drew ?_|refine keep_alloc ?_ _|refine keep_trans ?_ (by assumption)))⟩) ?_
 dsimp only[pickOps,nthOp]
 repeat (first|(refine wpS_skip rfl (fun K hK=>?_);go_big_quiet_op;refine hK _ ?_;clear hK K)|(refine wpS_quiet rfl rfl (fun K hK=>?_);go_big_quiet_op;refine hK _ ?_;clear hK K)|(refine wpS_loud ?_;go_wp2_with (first|(go_at_call 38;refine (HKS2.out _ (keep_drew (Below.refl _ _))).mono ?_;rintro _ w1 ⟨rfl,hb1⟩;replace x0:=((bcell hb1).1 _ _ xl).trans x0;replace x1:=((bcell hb1).1 _ _ xl).trans x1;replace x2:=((bcell hb1).1 _ _ xl).trans x2;replace x3:=((bcell hb1).1 _ _ xl).trans x3;replace xl:=Nat.lt_of_lt_of_le xl hb1.size)|(go_at_call 92;refine (HOP2.out _ (keep_trans (keep_drew (Below.refl _ _)) hb1)).mono ?_;rintro _ w2 ⟨vo,rfl,howno,hb2⟩;obtain ⟨ao,co,rfl⟩:=owns_shape howno;clear howno)|(go_at_call 69;refine (when_c _ _ _).mono ?_;rintro _ w3 ⟨rfl,rfl⟩)|(go_at_call 79;refine (first_c _ _ _ _ _ (IC.new2 _ _ _ _)).mono ?_;rintro _ w4 ⟨rfl,rfl⟩));refine ⟨?_,?_⟩;focus (exact ⟨_,below_over (by repeat (first|assumption|exact Below.refl _ _|refine keep_drew ?_|refine keep_alloc ?_ _|refine keep_trans ?_ (by assumption)))⟩)))
 refine wpS_late _ _ _ rfl ?_
 dsimp only[List.map]
 go_wp2_with (first|(go_at_call 38;refine (HKS2.out _ (keep_drew (Below.refl _ _))).mono ?_;rintro _ w1 ⟨rfl,hb1⟩;replace x0:=((bcell hb1).1 _ _ xl).trans x0;replace x1:=((bcell hb1).1 _ _ xl).trans x1;replace x2:=((bcell hb1).1 _ _ xl).trans x2;replace x3:=((bcell hb1).1 _ _ xl).trans x3;replace xl:=Nat.lt_of_lt_of_le xl hb1.size)|(go_at_call 92;refine (HOP2.out _ (keep_trans (keep_drew (Below.refl _ _)) hb1)).mono ?_;rintro _ w2 ⟨vo,rfl,howno,hb2⟩;obtain ⟨ao,co,rfl⟩:=owns_shape howno;clear howno)|(go_at_call 69;refine (when_c _ _ _).mono ?_;rintro _ w3 ⟨rfl,rfl⟩)|(go_at_call 79;refine (first_c _ _ _ _ _ (IC.new2 _ _ _ _)).mono ?_;rintro _ w4 ⟨rfl,rfl⟩))
 refine NoPanic.normal ?_
 have hb4:Below W0.heap.size W0 (w2.alloc (.cells #[.int .i64 se,.int .i64 (whenV (decide (16<((openL g).length:Int))) 20)] 34)):=keep_alloc (keep_trans (keep_trans (keep_drew (Below.refl _ _)) hb1) hb2) _
 generalize (w2.alloc (.cells #[.int .i64 se,.int .i64 (whenV (decide (16<((openL g).length:Int))) 20)] 34))=w5 at hb4 ⊢
 rw[← hE.out]
 clear x0 x1 x2 x3 y0 y1 y2 xl yl hb1 hb2 HKS2 HOP2
 have hBW5:Below w.heap.size w w5:=keep_trans fB hb4
 have y2:w5.cell? ⟨w.heap.size+1,2,none⟩=some (.bool d):=q_cell (keepq hb4 HQ1.out) 2
 have yl:=q_lt (keepq hb4 HQ1.out)
 by_cases he:(fe != 0)=true
 ·have hne:¬fe=0:=by simpa using he
  rw[if_pos he] at hX hL
  go_wp2
  go_ret2
  exact ⟨none,0,0,by rw[hX.out];rfl,by rw[hL.out];exact RC.none _,Nat.le_refl _,hBW5⟩
 ·have hfe:fe=0:=by simpa using he
  rw[if_neg he] at hX hL
  have hG:=hstE.out (hst0.out hfe)
  subst hfe
  clear he hst0 hstE hE
  cases d with
  | true =>
   rw[if_pos rfl] at hX hL
   clear hG
   go_wp2
   go_ret2
   exact ⟨none,0,0,by rw[hX.out];rfl,by rw[hL.out];exact RC.none _,Nat.le_refl _,hBW5⟩
  | false =>
   rw[if_neg (by decide)] at hX hL
   have HG:=Lib.hid hG.1
   have HH:=Lib.hid hG.2
   clear hG
   have hn2:n'≤256:=by have:=HG.out.glen;have:=hgl.out;omega
   have hn1:n≤1000000:=by have:=HG.out.lines;have:=H.out.len;omega
   have hz5:=hb4.size
   have hOlt:∀k,k<w.heap.size→k<w5.heap.size:=fun k hk=>by omega
   have HSO:=Lib.hid (searchOf_c a n c ls cells sum a' n' c' g w5 (H.out.mono hBW5) hcap hn1 (H'.out.mono hBW5) hn2 (fun k hk=>by have:=HG.out.num k (by have:=hgl.out;omega);have:=HG.out.cells2;omega) (fun l hl=>by have h1:=HG.out.lineLen hl;have h2:=HG.out.len;have h3:=hgl.out;exact ⟨h1.1,fun x hx=>by have:=h1.2 x hx;omega⟩) (fun k=>k<w.heap.size) hOlt (old_lines H.out hBW5))
   have x0:w5.cell? ⟨w.heap.size,0,none⟩=some (.int .i64 cells):=q_cell (keepq hb4 HQ0.out) 0
   have x1:w5.cell? ⟨w.heap.size,1,none⟩=some (.slice a n c):=q_cell (keepq hb4 HQ0.out) 1
   have x2:w5.cell? ⟨w.heap.size,2,none⟩=some (.int .i64 sum):=q_cell (keepq hb4 HQ0.out) 2
   have x3:w5.cell? ⟨w.heap.size,3,none⟩=some (.slice a' n' c'):=q_cell (keepq hb4 HQ0.out) 3
   have xl:=q_lt (keepq hb4 HQ0.out)
   go_wp2_with fail
   clear x0 x1 x2 x3 xl y2 yl
   refine HSO.out.mono ?_
   rintro _ w6 ⟨b,Im,ao,co,al,cl,vf,rfl,hsr,hb6,hbge,hvge,himge⟩
   have hB6:Below W0.heap.size W0 w6:=hb4.trans (hb6.mono hb4.size)
   have hBW6:=keep_trans fB hB6
   have HEV:Hid (Even ⟨cells,a,n,c,ls,sum,a',n',c',g,ao,co,al,cl⟩):=HG.out.even
   obtain ⟨af,nf,cf,rfl⟩:∃af nf cf,vf = .slice af nf cf:=by
    obtain ⟨a,c,e⟩:=owns_shape hsr.f
    exact ⟨a,_,c,e⟩
   have HVG:=Lib.hid hvge
   have hbW:W0.heap.size≤b:=by omega
   have HLD:=Lib.hid (load_c b Im _ (.slice af nf cf) (.slice none 0 0) [] P ap np cp w6 hsr (HP.out.mono hBW6) (fun h0 p e=>by
    obtain ⟨b9,o9,e9,hl9,_⟩:=HP.out.2 0 h0
    rw[e] at e9
    cases e9
    rintro (h|h|h)
    ·simp only at h;omega
    ·have:=hvge _ h;simp only at this;omega
    ·cases h) (by
    have h1:=path_okP (C:=⟨cells,a,n,c,ls,sum,a',n',c',g,ao,co,al,cl⟩) HH.out.2 HH.out.1 P.length (Nat.le_refl _)
    rw[List.take_length] at h1
    rw[List.nil_append]
    exact h1))
   have y0:w6.cell? ⟨w.heap.size+1,0,none⟩=some (.slice ap np cp):=q_cell (keepq hB6 HQ1.out) 0
   have yl:=q_lt (keepq hB6 HQ1.out)
   clear hsr hvge himge HSO
   go_wp2_with fail
   refine HLD.out.mono ?_
   rintro _ w7 ⟨rfl,vp,hsr7,hst7,hvp7⟩
   have hB7:Below W0.heap.size W0 w7:=hB6.trans (hst7.below hB6.size (by
    rintro q (e|e|e)
    ·omega
    ·have:=HVG.out q e;omega
    ·cases e))
   have hvp7':∀q,vp.ownBlock=some q→W0.heap.size≤q:=fun q e=>(hvp7 q e).elim (fun h=>(by cases h)) (fun h=>by have:=hB6.size;omega)
   have HGE:Hid (∀k,Mut b (.slice af nf cf) vp k→W0.heap.size≤k):=by
    rintro k (e|e|e)
    ·omega
    ·have:=HVG.out k e;omega
    ·exact hvp7' k e
   rw[List.nil_append] at hsr7
   have HS7:=Lib.hid hsr7
   clear y0 yl hsr7 hst7 hvp7 hvp7' HLD
   have hz7:=hB7.size
   have hb8:Below w7.heap.size w7 (w7.alloc (.cells #[.pointer (some ⟨b,0,none⟩)] 139)):=(Below.refl _ _).alloc (Nat.le_refl _) _
   have HFW:=Lib.hid (few_c b w7.heap.size Im ⟨cells,a,n,c,ls,sum,a',n',c',g,ao,co,al,cl⟩ (.slice af nf cf) vp P _ (HS7.out.below hb8) HEV.out ((box_cells _ _ _ 0).trans rfl) (by simp) (fun e=>by have:=HS7.out.mutLt e;omega) W0.heap.size (by have:=hb8.size;omega) HGE.out 257 (by decide) (by decide))
   dsimp only at HFW
   go_wp2_with (first|(go_at_call 87;refine (solutions_c b w7).mono ?_;rintro _ w8 ⟨rfl,rfl⟩))
   refine HFW.out.mono ?_
   rintro _ w9 ⟨a9,n9,c9,rfl,hrc,hc9,hb9⟩
   have hB9:Below W0.heap.size W0 w9:=(hB7.trans (hb8.mono hz7)).trans hb9
   have hln:=hrc.len
   rw[List.length_take] at hln
   by_cases hbig:256<(solsL ls sum g P).length
   ·have h9:n9=257:=by rw[← hln];show min 257 _=257;omega
    subst h9
    rw[if_pos hbig] at hX hL
    clear hrc hln
    go_wp2
    go_ret2
    exact ⟨none,0,0,by rw[hX.out];rfl,by rw[hL.out];exact RC.none _,Nat.le_refl _,keep_trans fB hB9⟩
   ·rw[if_neg hbig] at hX hL
    rw[List.take_of_length_le (show (solsL ls sum g P).length≤(257:Int).toNat from by show _≤257;omega)] at hrc
    have h9:n9≤256:=by rw[← hrc.len];omega
    have h9i:¬(256:Int)<(n9:Int):=by omega
    have HRC:=Lib.hid hrc
    clear hrc hln
    go_wp2
    go_ret2
    exact ⟨a9,n9,c9,by rw[hX.out];rfl,by rw[hL.out];exact HRC.out,hc9,keep_trans fB hB9⟩
end
end Go.Proofs.YtcblpobiefmjmaaGreat
