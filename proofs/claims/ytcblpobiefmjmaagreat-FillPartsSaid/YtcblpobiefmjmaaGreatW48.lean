/- Texts Y8 to Y9 of this proof, in one file. -/
import Derived.Test.YtcblpobiefmjmaaGreatW08
import Derived.Test.YtcblpobiefmjmaaGreatW12
import Derived.Test.YtcblpobiefmjmaaGreatW43
import Derived.Test.YtcblpobiefmjmaaGreatW46
namespace Go.Proofs.YtcblpobiefmjmaaGreat
set_option maxRecDepth 100000
set_option maxHeartbeats 16000000
section
open Go Go.RowKit Go.Shelf
attribute [local go_sem] over_cell
attribute [local go_sem] Oper.semAt_some
theorem cont_r {cells:Int} {ls:List (List Int)} {sum:Int} {g:List Int} (G:GoodTask cells ls sum g) (a:Option Addr) (n c:Nat) (a':Option Addr) (n' c':Nat) (ap:Option Addr) (np cp:Nat) (P:List Int) (tried:Int) (B:Nat) (w:World) (h:RC w a n ls) (hcap:n≤c) (h':IC w a' n' g) (hcap':n'≤c') (hP:IC w ap np P) (hcp:np≤cp)
  (hst:stateE cells ls sum g P tried false=0) (hB1:0<B) (hB2:B≤1000000) (ht0:0≤tried) (ht:tried+B≤999999999) (hop:0<(openL g).length) :
  Calls Tryz.prog 39 #[.agg #[.int .i64 cells,.slice a n c,.int .i64 sum,.slice a' n' c'],.agg #[.slice ap np cp,.int .i64 tried,.bool false],.int .i64 B] w fun e w'=>∃ar nr cr af nf cf,e = .returned (.tuple #[.agg #[.slice ar nr cr,.int .i64 (tried+(contL ls sum g B P).2.1),.bool (contL ls sum g B P).2.2.2],.slice af nf cf,.int .i64 0])∧IC w' ar nr (contL ls sum g B P).1∧nr≤cr∧RC w' af nf (contL ls sum g B P).2.2.1∧nf≤cf∧FreshP w.heap.size ar nr∧FreshR w.heap.size w' (.slice af nf cf) (contL ls sum g B P).2.2.1∧Below w.heap.size w w':=by
 have H:=Lib.hid h
 have H':=Lib.hid h'
 have HP:=Lib.hid hP
 have HG:=Lib.hid G
 have hgl:=Lib.hid h'.len
 have hpl:=Lib.hid hP.len
 have hn2:n'≤256:=by have:=G.glen;have:=h'.len;omega
 have hn1:n≤1000000:=by have:=G.lines;have:=h.len;omega
 have hopl:(openL g).length≤256:=by have:=openTo_len g g.length;have:=G.glen;unfold openL;omega
 have HKS:=Lib.hid (fun w1 (hb:Below w.heap.size w w1)=>kstate_c a n c ls cells sum a' n' c' g ap np cp P tried false w1 (h.mono hb) hcap (h'.mono hb) hcap' (hP.mono hb) hcp)
 rw[hst] at HKS
 have hte:taskErr cells ls sum g=0:=by
  unfold stateE at hst
  by_cases e:taskErr cells ls sum g=0
  ·exact e
  ·rw[if_pos e] at hst;exact absurd hst e
 have hhe:headErr g P tried false=0:=by
  unfold stateE at hst
  rw[if_neg (by simpa using hte)] at hst
  unfold stateErr at hst
  by_cases e:headErr g P tried false=0
  ·exact e
  ·rw[if_pos e] at hst;exact absurd hst e
 have HH:=Lib.hid (headErr_len hhe)
 obtain ⟨i2,hi,hz0,hz1,hz2⟩:=info_parts infoRow
 clear h h' hP G hst hte hhe
 go_enter Tryz.func39,Tryz.ntmps39
 go_wp2_with fail
 go_step3
 go_wp2_with fail
 have fsz:(((w.alloc (.cells #[.int .i64 cells,.slice a n c,.int .i64 sum,.slice a' n' c'] 27)).alloc (.cells #[.slice ap np cp,.int .i64 tried,.bool false] 68)).alloc (.cells #[.slice none 0 0,.int .i64 0,.bool false] 68)).heap.size=w.heap.size+3:=by simp only[World.size_alloc] <;> omega
 have fB:Below w.heap.size w (((w.alloc (.cells #[.int .i64 cells,.slice a n c,.int .i64 sum,.slice a' n' c'] 27)).alloc (.cells #[.slice ap np cp,.int .i64 tried,.bool false] 68)).alloc (.cells #[.slice none 0 0,.int .i64 0,.bool false] 68)):=(((Below.refl _ _).alloc (Nat.le_refl _) _).alloc (by simp only[World.size_alloc];omega) _).alloc (by simp only[World.size_alloc];omega) _
 have fq0:(((w.alloc (.cells #[.int .i64 cells,.slice a n c,.int .i64 sum,.slice a' n' c'] 27)).alloc (.cells #[.slice ap np cp,.int .i64 tried,.bool false] 68)).alloc (.cells #[.slice none 0 0,.int .i64 0,.bool false] 68)).heap[w.heap.size]?=some (.cells #[.int .i64 cells,.slice a n c,.int .i64 sum,.slice a' n' c'] 27 (0,0)):=by have h:=World.alloc_heap_new w (.cells #[.int .i64 cells,.slice a n c,.int .i64 sum,.slice a' n' c'] 27);exact (Below.heap_alloc _ _ _ (by simp only[World.size_alloc];omega)).trans ((Below.heap_alloc _ _ _ (by simp only[World.size_alloc];omega)).trans (h))
 have fq1:(((w.alloc (.cells #[.int .i64 cells,.slice a n c,.int .i64 sum,.slice a' n' c'] 27)).alloc (.cells #[.slice ap np cp,.int .i64 tried,.bool false] 68)).alloc (.cells #[.slice none 0 0,.int .i64 0,.bool false] 68)).heap[w.heap.size+1]?=some (.cells #[.slice ap np cp,.int .i64 tried,.bool false] 68 (0,0)):=by have h:=World.alloc_heap_new (w.alloc (.cells #[.int .i64 cells,.slice a n c,.int .i64 sum,.slice a' n' c'] 27)) (.cells #[.slice ap np cp,.int .i64 tried,.bool false] 68);simp only[World.size_alloc] at h;exact (Below.heap_alloc _ _ _ (by simp only[World.size_alloc];omega)).trans (h)
 have fq2:(((w.alloc (.cells #[.int .i64 cells,.slice a n c,.int .i64 sum,.slice a' n' c'] 27)).alloc (.cells #[.slice ap np cp,.int .i64 tried,.bool false] 68)).alloc (.cells #[.slice none 0 0,.int .i64 0,.bool false] 68)).heap[w.heap.size+1+1]?=some (.cells #[.slice none 0 0,.int .i64 0,.bool false] 68 (0,0)):=by have h:=World.alloc_heap_new ((w.alloc (.cells #[.int .i64 cells,.slice a n c,.int .i64 sum,.slice a' n' c'] 27)).alloc (.cells #[.slice ap np cp,.int .i64 tried,.bool false] 68)) (.cells #[.slice none 0 0,.int .i64 0,.bool false] 68);simp only[World.size_alloc] at h;exact h
 generalize (((w.alloc (.cells #[.int .i64 cells,.slice a n c,.int .i64 sum,.slice a' n' c'] 27)).alloc (.cells #[.slice ap np cp,.int .i64 tried,.bool false] 68)).alloc (.cells #[.slice none 0 0,.int .i64 0,.bool false] 68))=W0 at fsz fB fq0 fq1 fq2 ⊢
 have fsz':w.heap.size+2<W0.heap.size:=by omega
 have HQ0:=Lib.hid fq0
 have HQ1:=Lib.hid fq1
 have HQR:=Lib.hid fq2
 clear fsz fq0 fq1 fq2
 refine (HKS.out W0 fB).mono ?_
 rintro _ w1 ⟨rfl,hb1⟩
 have hd1:¬(B:Int)<0:=by omega
 have hd2:decide ((B:Int)<0)=false:=decide_eq_false (by omega)
 have hd3:decide ((1000000:Int)<(B:Int))=false:=decide_eq_false (by omega)
 have hd4:decide ((999999999:Int)<tried+(B:Int))=false:=decide_eq_false (by omega)
 have hfl:firstL [whenV false 3,whenV false 4]=0:=by decide
 have hB0:((B:Int)==0)=false:=beq_eq_false_iff_ne.2 (by omega)
 have ho0:((((openL g).length:Nat):Int)==0)=false:=beq_eq_false_iff_ne.2 (by omega)
 have x0:w1.cell? ⟨w.heap.size,0,none⟩=some (.int .i64 cells):=q_cell (keepq hb1 HQ0.out) 0
 have x1:w1.cell? ⟨w.heap.size,1,none⟩=some (.slice a n c):=q_cell (keepq hb1 HQ0.out) 1
 have x2:w1.cell? ⟨w.heap.size,2,none⟩=some (.int .i64 sum):=q_cell (keepq hb1 HQ0.out) 2
 have x3:w1.cell? ⟨w.heap.size,3,none⟩=some (.slice a' n' c'):=q_cell (keepq hb1 HQ0.out) 3
 have y1:w1.cell? ⟨w.heap.size+1,1,none⟩=some (.int .i64 tried):=q_cell (keepq hb1 HQ1.out) 1
 have y2:w1.cell? ⟨w.heap.size+1,2,none⟩=some (.bool false):=q_cell (keepq hb1 HQ1.out) 2
 have xl:=q_lt (keepq hb1 HQ0.out)
 have yl:=q_lt (keepq hb1 HQ1.out)
 clear HKS
 go_wp2_with fail
 refine wp_region_S (fun w'=>∃u,w'=over (w1) u) [15,14,13,12] [(0,0),(0,1),(0,2),(0,3),(0,4),(0,5),(0,7),(0,8),(0,9),(0,10),(0,11),(1,6),(2,12),(2,13),(2,14),(2,15)] (by kernel_rfl) (by kernel_rfl) (by exact ⟨_,below_over (by repeat (first|assumption|exact Below.refl _ _|refine keep_drew ?_|refine keep_alloc ?_ _|refine keep_trans ?_ (by assumption)))⟩) ?_
 dsimp only[pickOps,nthOp]
 repeat (first|(refine wpS_skip rfl (fun K hK=>?_);go_big_quiet_op;refine hK _ ?_;clear hK K)|(refine wpS_quiet rfl rfl (fun K hK=>?_);go_big_quiet_op;refine hK _ ?_;clear hK K)|(refine wpS_loud ?_;go_wp2_with (first|(go_at_call 69;refine (when_c _ _ _).mono ?_;rintro _ w2 ⟨rfl,rfl⟩)|(go_at_call 79;refine (first_c _ _ _ _ _ ((IC.new2 _ _ _ _).mono (keep_drew (Below.refl _ _)))).mono ?_;rintro _ w4 ⟨rfl,rfl⟩));refine ⟨?_,?_⟩;focus (exact ⟨_,below_over (by repeat (first|assumption|exact Below.refl _ _|refine keep_drew ?_|refine keep_alloc ?_ _|refine keep_trans ?_ (by assumption)))⟩)))
 refine wpS_late _ _ _ rfl ?_
 dsimp only[List.map]
 go_wp2_with (first|(go_at_call 69;refine (when_c _ _ _).mono ?_;rintro _ w2 ⟨rfl,rfl⟩)|(go_at_call 79;refine (first_c _ _ _ _ _ ((IC.new2 _ _ _ _).mono (keep_drew (Below.refl _ _)))).mono ?_;rintro _ w4 ⟨rfl,rfl⟩))
 refine NoPanic.normal ?_
 go_wp2_with fail
 generalize hW5:(w1.alloc (.cells #[.int .i64 (whenV false 3),.int .i64 (whenV false 4)] 34)).drew=w5
 have hb5:Below w1.heap.size w1 w5:=by rw[← hW5];exact ((Below.refl _ _).alloc (Nat.le_refl _) _).drew
 clear hW5
 have hB5:=hb1.trans (hb5.mono hb1.size)
 have hBW5:=fB.trans (hB5.mono fB.size)
 have hz5:=hB5.size
 have hOlt:∀k,k<w.heap.size→k<w5.heap.size:=fun k hk=>by omega
 have HSO:=Lib.hid (searchOf_c a n c ls cells sum a' n' c' g w5 (H.out.mono hBW5) hcap hn1 (H'.out.mono hBW5) hn2 (fun k hk=>by have:=HG.out.num k (by have:=hgl.out;omega);have:=HG.out.cells2;omega) (fun l hl=>by have h1:=HG.out.lineLen hl;have h2:=HG.out.len;have h3:=hgl.out;exact ⟨h1.1,fun x hx=>by have:=h1.2 x hx;omega⟩) (fun k=>k<w.heap.size) hOlt (old_lines H.out hBW5))
 clear x0 x1 x2 x3 y1 y2 xl yl hd1 hd2 hd3 hd4 hfl
 refine HSO.out.mono ?_
 rintro _ w6 ⟨b,Im,ao,co,al,cl,vf,rfl,hsr,hb6,hbge,hvge,himge⟩
 have hB6:=hB5.trans (hb6.mono hB5.size)
 have hBW6:=fB.trans (hB6.mono fB.size)
 have HEV:Hid (Even ⟨cells,a,n,c,ls,sum,a',n',c',g,ao,co,al,cl⟩):=HG.out.even
 obtain ⟨af,nf,cf,rfl⟩:∃af nf cf,vf = .slice af nf cf:=by
  obtain ⟨a,c,e⟩:=owns_shape hsr.f
  exact ⟨a,_,c,e⟩
 have HVG:=Lib.hid hvge
 have hbW:W0.heap.size≤b:=by omega
 have HLD:=Lib.hid (load_c b Im _ (.slice af nf cf) (.slice none 0 0) [] P ap np cp w6 hsr (HP.out.mono hBW6) (fun h0 p e=>by
  obtain ⟨b9,o9,e9,hl9,_⟩:=HP.out.2 0 h0
  rw[e] at e9
  cases e9
  rintro (h|h|h)
  ·simp only at h;omega
  ·have:=hvge _ h;simp only at this;omega
  ·cases h) (by
  have h1:=path_okP (C:=⟨cells,a,n,c,ls,sum,a',n',c',g,ao,co,al,cl⟩) HH.out.2 HH.out.1 P.length (Nat.le_refl _)
  rw[List.take_length] at h1
  rw[List.nil_append]
  exact h1))
 have y0:w6.cell? ⟨w.heap.size+1,0,none⟩=some (.slice ap np cp):=q_cell (keepq hB6 HQ1.out) 0
 have yl:=q_lt (keepq hB6 HQ1.out)
 have s4:w6.cell? ⟨b,4,none⟩=some (.slice ao (openL g).length co):=hsr.c4
 have sl:=hsr.lt
 clear hsr hvge himge HSO
 go_wp2_with fail
 refine HLD.out.mono ?_
 rintro _ w7 ⟨rfl,vp,hsr7,hst7,hvp7⟩
 have hBo7:Below W0.heap.size W0 w7:=hB6.trans (hst7.below hB6.size (by
  rintro q (e|e|e)
  ·omega
  ·have:=HVG.out q e;omega
  ·cases e))
 have HS7:=Lib.hid hsr7
 have hvp7':∀q,vp.ownBlock=some q→W0.heap.size≤q:=fun q e=>(hvp7 q e).elim (fun h=>(by cases h)) (fun h=>by have:=hB6.size;omega)
 have HVP7:=Lib.hid hvp7'
 rw[List.nil_append] at HS7
 clear y0 yl s4 sl hsr7 hst7 hvp7 hvp7' HLD
 go_wp2_with fail
 go_step3
 go_wp2_with fail
 go_loopw [12,13] (fun v i wv=>∃(j:Nat) (vp:Value) (Pj:List Int) (pre:List (Value × List Int)),j≤B∧i = .int .i64 j∧Hid (SR wv b Im ⟨cells,a,n,c,ls,sum,a',n',c',g,ao,co,al,cl⟩ (.slice af nf cf) vp Pj)∧Hid (∀q,vp.ownBlock=some q→W0.heap.size≤q)∧Hid (RowsI wv (Mut b (.slice af nf cf) vp) W0.heap.size v pre)∧Hid (∀q,v.ownBlock=some q→¬Im q)∧pre.length≤j∧Hid (∀x,x∈pre→x.2.length≤256)∧Hid (contL ls sum g B P=plus j (pre.map Prod.snd) (contL ls sum g (B - j) Pj))∧Below W0.heap.size W0 wv) (fun _ i _=>B - (intOf i).toNat)
 case atStart=>exact ⟨0,vp,P,[],by omega,rfl,HS7.out,HVP7.out,RowsI.nil _ _ _,fun q e=>(by cases e),Nat.le_refl _,fun x hx=>absurd hx (by simp),by unfold Hid;simp[plus],hBo7⟩
 case round =>
  obtain ⟨j,vp,Pj,pre,hj,rfl,hsr,hvp,hrow,hni,hlen,hshort,hR,hbr⟩:=hrel
  have hQR:=Lib.hid (keepq hbr HQR.out)
  have hQS:=Lib.hid (keepq hbr HQ1.out)
  obtain ⟨av,cv,rfl⟩:=owns_shape hrow.out.1
  by_cases hlt:j<B
  ·have hji:(j:Int)<(B:Int):=by omega
   have HN:=Lib.hid (next_c b Im _ (.slice af nf cf) vp Pj wr hsr.out HEV.out)
   rw[nextP_pl] at HN
   dsimp only at HN
   cases hn:nextP (plC ls sum g) Pj with
   | none =>
    have HN2:=HN.out
    rw[hn] at HN2
    have HN3:=Lib.hid HN2
    have HRE:=Lib.hid (plus_none hR.out hlt hn)
    clear hn HN HN2
    go_wp2_with fail
    refine HN3.out.mono ?_
    rintro _ w8 ⟨rfl,vp',hsr8,hst8,hvp8⟩
    have hB8:Below W0.heap.size W0 w8:=hbr.trans (hst8.below hbr.size (by
     rintro q (e|e|e)
     ·omega
     ·exact Nat.le_trans (by have:=HVG.out q e;omega) (Nat.le_refl q)
     ·exact hvp.out q e))
    have hQR8:=Lib.hid (keepq hB8 HQR.out)
    have hQS8:=Lib.hid (keepq hB8 HQ1.out)
    have hrow8:=hrow.out.keep (hst8.toL 0) (M':=Mut b (.slice af nf cf) vp) (fun _ e => .inl e)
    have HR8:=Lib.hid hrow8
    have y1:w8.cell? ⟨w.heap.size+1,1,none⟩=some (.int .i64 tried):=q_cell hQS8.out 1
    have yl:=q_lt hQS8.out
    have rl:=q_lt hQR8.out
    have r0:w8.cell? ⟨w.heap.size+1+1,0,none⟩=some (.slice none 0 0):=q_cell hQR8.out 0
    have r1:w8.cell? ⟨w.heap.size+1+1,1,none⟩=some (.int .i64 0):=q_cell hQR8.out 1
    have r2:w8.cell? ⟨w.heap.size+1+1,2,none⟩=some (.bool false):=q_cell hQR8.out 2
    have rf0:=q_free hQR8.out 0
    have rf1:=q_free hQR8.out 1
    have rf2:=q_free hQR8.out 2
    clear hsr8 hst8 hvp8 hrow8 HN3
    go_wp2_with fail
    have r:=q_set (i:=2) (q_set (i:=1) (q_set (i:=0) hQR8.out (.slice none 0 0)) (.int .i64 (tried+(j:Nat)))) (.bool true)
    have z0:=q_cell r 0
    have z1:=q_cell r 1
    have z2:=q_cell r 2
    have hr9:=((HR8.out.setCell (b:=w.heap.size+1+1) (i:=0) (by omega) (.slice none 0 0)).setCell (b:=w.heap.size+1+1) (i:=1) (by omega) (.int .i64 (tried+(j:Nat)))).setCell (b:=w.heap.size+1+1) (i:=2) (by omega) (.bool true)
    obtain ⟨av2,cv2,e2,hrc,hcv⟩:=hr9.rc (by omega) (fun x hx=>by have:=hshort.out x hx;omega)
    cases e2
    rw[Exit.noGoto_ret]
    refine bodyPost_ret (v := .tuple #[.agg #[.slice none 0 0,.int .i64 (tried+(j:Nat)),.bool true],.slice av pre.length cv,.int .i64 0]) ?_ rfl ?_
    ·simp[results,Tryz.f39,go_sem,z0,z1,z2]
    ·refine ⟨none,0,0,av,pre.length,cv,by rw[HRE.out],by rw[HRE.out];exact IC.nil _,Nat.le_refl _,by rw[HRE.out];exact hrc,hcv,fun b o h0=>absurd h0 (Nat.not_lt_zero _),⟨pre,hr9.free (by have:=fB.size;omega),by rw[HRE.out],by omega⟩,?_⟩
     exact (((fB.trans (hB8.mono fB.size)).setCell (p:=⟨w.heap.size+1+1,0,none⟩) (by show w.heap.size≤w.heap.size+1+1;omega) _).setCell (p:=⟨w.heap.size+1+1,1,none⟩) (by show w.heap.size≤w.heap.size+1+1;omega) _).setCell (p:=⟨w.heap.size+1+1,2,none⟩) (by show w.heap.size≤w.heap.size+1+1;omega) _
   | some P' =>
    have HN2:=HN.out
    rw[hn] at HN2
    have HN3:=Lib.hid HN2
    have HRE:=Lib.hid (plus_step hR.out hlt hn)
    clear hn HN HN2
    go_wp2_with fail
    refine HN3.out.mono ?_
    rintro _ w8 ⟨rfl,vp',hsr8,hst8,hvp8⟩
    have hB8:Below W0.heap.size W0 w8:=hbr.trans (hst8.below hbr.size (by
     rintro q (e|e|e)
     ·omega
     ·exact Nat.le_trans (by have:=HVG.out q e;omega) (Nat.le_refl q)
     ·exact hvp.out q e))
    have hvp8':Hid (∀q,vp'.ownBlock=some q→W0.heap.size≤q):=fun q e=>(hvp8 q e).elim (fun h=>hvp.out q h) (fun h=>by have:=hbr.size;omega)
    have hrow8:=hrow.out.keep (hst8.toL 0) (M':=Mut b (.slice af nf cf) vp') (fun q e=>by
     rcases e with e|e|e
     ·exact .inl (.inl e)
     ·exact .inl (.inr (.inl e))
     ·exact (hvp8 q e).imp (fun h => .inr (.inr h)) id)
    have HR8:=Lib.hid hrow8
    have HS8:Hid (SR w8 b Im ⟨cells,a,n,c,ls,sum,a',n',c',g,ao,co,al,cl⟩ (.slice af nf cf) vp' P'):=hsr8
    have HF:=Lib.hid (full_c b Im _ (.slice af nf cf) vp' P' w8 HS8.out)
    have hz8:=hB8.size
    clear hsr8 hst8 hvp8 hrow8 HN3
    have HFA:Hid (foundAt ls sum g P'=if (P'.length==(openL g).length&&!wrongB (plC ls sum g) P')=true then [fillP (plC ls sum g) P'] else []):=rfl
    dsimp only[Cst.O] at HF
    cases hfu:(P'.length==(openL g).length) with
    | false =>
     rw[hfu,Bool.false_and,if_neg (by decide)] at HFA
     rw[hfu] at HF
     clear hfu
     go_wp2_with fail
     refine HF.out.mono ?_
     rintro _ w9 ⟨rfl,hb9⟩
     go_wp2_with fail
     go_roundw
     case rel=>exact ⟨j+1,vp',P',pre,by omega,by go_num,HS8.out.below hb9,hvp8'.out,HR8.out.keep ((Below.stays hb9 _).toL 0) (fun _ e => .inl e),hni.out,by omega,hshort.out,by have:=HRE.out;rw[HFA.out,List.append_nil] at this;exact this,hB8.trans (hb9.mono hB8.size)⟩
     case measure=>simp[intOf];omega
    | true =>
     rw[hfu] at HF
     rw[hfu,Bool.true_and] at HFA
     clear hfu
     have HW:=Lib.hid (fun W (hb:Below w8.heap.size w8 W)=>wrong_c b Im _ (.slice af nf cf) vp' P' W (HS8.out.below hb))
     rw[wrongB_pl] at HW
     dsimp only at HW
     cases hwr:wrongB (plC ls sum g) P' with
     | true =>
      rw[hwr] at HW
      rw[hwr,if_neg (by decide)] at HFA
      clear hwr
      go_wp2_with fail
      refine HF.out.mono ?_
      rintro _ w9 ⟨rfl,hb9⟩
      go_wp2_with fail
      refine (HW.out w9 hb9).mono ?_
      rintro _ w10 ⟨rfl,hb10⟩
      have hb11:=hb9.trans (hb10.mono hb9.size)
      go_wp2_with fail
      go_roundw
      case rel=>exact ⟨j+1,vp',P',pre,by omega,by go_num,HS8.out.below hb11,hvp8'.out,HR8.out.keep ((Below.stays hb11 _).toL 0) (fun _ e => .inl e),hni.out,by omega,hshort.out,by have:=HRE.out;rw[HFA.out,List.append_nil] at this;exact this,hB8.trans (hb11.mono hB8.size)⟩
      case measure=>simp[intOf];omega
     | false =>
      rw[hwr] at HW
      rw[hwr,if_pos (by decide)] at HFA
      clear hwr
      go_wp2_with fail
      refine HF.out.mono ?_
      rintro _ w9 ⟨rfl,hb9⟩
      go_wp2_with fail
      refine (HW.out w9 hb9).mono ?_
      rintro _ w10 ⟨rfl,hb10⟩
      have hb11:=hb9.trans (hb10.mono hb9.size)
      have hsr10:=HS8.out.below hb11
      have hic:=hsr10.ic
      have hlf:=hic.1.len
      have hle6:(fillP (plC ls sum g) P').length≤256:=by rw[fillP_len];show g.length≤256;have:=hgl.out;omega
      have c10:w10.cell? ⟨b,10,none⟩=some (.slice af nf cf):=hsr10.c10
      have sl:=hsr10.lt
      have HCL:=Lib.hid (clone_c af nf cf (fillP (plC ls sum g) P') w10 hic.1)
      clear hsr10 hic hlf
      go_wp2_with fail
      refine HCL.out.mono ?_
      rintro _ w11 ⟨v11,rfl,hown11,hb12⟩
      have hb13:=hb11.trans (hb12.mono hb11.size)
      have hrow11:=HR8.out.keep ((Below.stays hb13 (Mut b (.slice af nf cf) vp')).toL 0) (M':=Mut b (.slice af nf cf) vp') (fun _ e => .inl e)
      obtain ⟨a11,c11,rfl⟩:=owns_shape hown11
      have HO11:=Lib.hid hown11
      have HR11:=Lib.hid hrow11
      have hz13:=hb13.size
      have hz11:=hb11.size
      have hra:=hrow11.1
      clear hown11 hrow11 c10 sl HCL
      go_wp2_with (first|(at_builtin;refine wpList_append_own2 _ rfl _ _ 22 rfl 25 i2 (.slice none 0 0) 1 24 Tryz.underlying22 hi hz0 hz1 hz2 rfl (by decide) _ _ _ rfl (owns_base (hra.alloc _) (Nat.zero_le _)) ⟨w11.heap.size,0,none⟩ 1 1 [.slice a11 (fillP (plC ls sum g) P').length c11] rfl rfl (cell_one_new _ _ _) (by simp[Value.oneCell']) (by unfold maxLen;omega) (by omega) ?_))
      intro v' w12 hown' hgrow hnew
      have hs12:=grow_stays hgrow
      have hnew2:∀k,v'.ownBlock=some k→(Value.slice av pre.length cv).ownBlock=some k∨w11.heap.size≤k:=fun k e=>(hnew k e).imp id (fun h=>by first|omega|(simp at h;omega))
      have hMlt:∀k,Mut b (.slice af nf cf) vp' k→k<w8.heap.size:=fun k e=>HS8.out.mutLt e
      have hrow12:=HR11.out.append (x:=(.slice a11 (fillP (plC ls sum g) P').length c11,fillP (plC ls sum g) P')) (v':=v') (fun k e=>Nat.lt_of_lt_of_le (hMlt k e) hz13) (owns_base HO11.out (by omega)) (fun k e=>by
       have h1:=owns_ge HO11.out e
       exact ⟨fun h2=>by have:=hMlt k h2;omega,fun h2=>by have:=(HR8.out.1.lt k h2).2;omega⟩) hs12 (owns_up hown' (fun k e=>(hnew2 k e).elim (fun h=>owns_ge HR8.out.1 h) (fun h=>by omega))) hnew2
      have HR12:=Lib.hid hrow12
      have hst13:Stays (fun k=>(Value.slice av pre.length cv).ownBlock=some k) w8 w12:=(Below.stays hb13 _).trans hs12 (fun _ e => .inl e)
      have HS12:Hid (SR w12 b Im ⟨cells,a,n,c,ls,sum,a',n',c',g,ao,co,al,cl⟩ (.slice af nf cf) vp' P'):=HS8.out.keep hst13.size (fun k hk e=>hst13.block k hk (fun e2=>by
       rcases e with e|e
       ·exact hni.out k e2 e
       ·exact HR8.out.2.1 k e2 e))
      obtain ⟨av',cv',rfl⟩:=owns_shape hrow12.1
      have hB12:Below W0.heap.size W0 w12:=hB8.trans (hst13.below hB8.size (fun k e=>owns_ge HR8.out.1 e))
      have HNI:Hid (∀q,(Value.slice av' (pre++[((Value.slice a11 (fillP (plC ls sum g) P').length c11),fillP (plC ls sum g) P')]).length cv').ownBlock=some q→¬Im q):=fun q e=>(hnew2 q e).elim (fun h=>hni.out q h) (fun h h2=>by have:=HS8.out.imLt q h2;omega)
      clear hown' hgrow hnew hnew2 hrow12 hra
      go_wp2_with fail
      go_roundw
      case rel=>exact ⟨j+1,vp',P',pre++[(Value.slice a11 (fillP (plC ls sum g) P').length c11,fillP (plC ls sum g) P')],by omega,by go_num,HS12.out,hvp8'.out,HR12.out,HNI.out,by simp;omega,fun x hx=>by
       rcases List.mem_append.1 hx with e|e
       ·exact hshort.out x e
       ·rw[List.mem_singleton.1 e];exact hle6,by have:=HRE.out;rw[HFA.out] at this;rw[List.map_append];exact this,hB12⟩
      case measure=>simp[intOf];omega
  ·have e:j=B:=by omega
   subst e
   have HRE:=Lib.hid (plus_end hR.out)
   obtain ⟨apj,cpj,rfl⟩:=owns_shape hsr.out.p
   have hicp:=(IC.of_owns hsr.out.p (by have:=hsr.out.ok.len;have h2:(⟨cells,a,n,c,ls,sum,a',n',c',g,ao,co,al,cl⟩:Cst).O.length=(openL g).length:=rfl;omega)).1
   have c11:wr.cell? ⟨b,11,none⟩=some (.slice apj Pj.length cpj):=hsr.out.c11
   have sl:=hsr.out.lt
   have y1:wr.cell? ⟨w.heap.size+1,1,none⟩=some (.int .i64 tried):=q_cell hQS.out 1
   have yl:=q_lt hQS.out
   have HCL:=Lib.hid (fun W (hb:Below wr.heap.size wr W)=>clone_c apj Pj.length cpj Pj W (hicp.mono hb))
   have hpj:Pj.length≤256:=by have:=hsr.out.ok.len;have h2:(⟨cells,a,n,c,ls,sum,a',n',c',g,ao,co,al,cl⟩:Cst).O.length=(openL g).length:=rfl;omega
   clear hicp
   go_wp2_with fail
   refine wp_region_T (fun w'=>∃u,w'=over (wr) u) [0,1,2,5,7,10] [11,12,13] [(0,3),(0,6),(0,8),(1,4),(0,9),(2,11),(2,12),(2,13)] (by kernel_rfl) (by kernel_rfl) (by exact ⟨_,below_over (by repeat (first|assumption|exact Below.refl _ _|refine keep_drew ?_|refine keep_alloc ?_ _|refine keep_trans ?_ (by assumption)))⟩) ?_
   dsimp only[pickF,nthOp]
   repeat (first|(refine wpF_skip rfl (fun K hK=>?_);go_big_quiet_op;refine hK _ ?_;clear hK K)|(refine wpF_quiet rfl rfl (fun K hK=>?_);go_big_quiet_op;refine hK _ ?_;clear hK K))
   refine wpF_end ?_
   dsimp only[pickOps,nthOp]
   repeat (first|(refine wpS_skip rfl (fun K hK=>?_);go_big_quiet_op;refine hK _ ?_;clear hK K)|(refine wpS_quiet rfl rfl (fun K hK=>?_);go_big_quiet_op;refine hK _ ?_;clear hK K)|(refine wpS_loud ?_;go_wp2_with (first|(go_at_call 63;refine (HCL.out _ (keep_drew (Below.refl _ _))).mono ?_;rintro _ w8 ⟨v8,rfl,hown8,hb8⟩;obtain ⟨a8,c8,rfl⟩:=owns_shape hown8;have hQR8:=Lib.hid (keepq hb8 hQR.out);have rl:=q_lt hQR8.out;have r0:w8.cell? ⟨w.heap.size+1+1,0,none⟩=some (.slice none 0 0):=q_cell hQR8.out 0;have r1:w8.cell? ⟨w.heap.size+1+1,1,none⟩=some (.int .i64 0):=q_cell hQR8.out 1;have r2:w8.cell? ⟨w.heap.size+1+1,2,none⟩=some (.bool false):=q_cell hQR8.out 2;have rf0:=q_free hQR8.out 0;have rf1:=q_free hQR8.out 1;have rf2:=q_free hQR8.out 2));refine ⟨?_,?_⟩;focus (exact ⟨_,below_over (by repeat (first|assumption|exact Below.refl _ _|refine keep_drew ?_|refine keep_alloc ?_ _|refine keep_trans ?_ (by assumption)))⟩)))
   refine wpS_late _ _ _ rfl ?_
   dsimp only[List.map]
   go_wp2_with (first|(go_at_call 63;refine (HCL.out _ (keep_drew (Below.refl _ _))).mono ?_;rintro _ w8 ⟨v8,rfl,hown8,hb8⟩;obtain ⟨a8,c8,rfl⟩:=owns_shape hown8;have hQR8:=Lib.hid (keepq hb8 hQR.out);have rl:=q_lt hQR8.out;have r0:w8.cell? ⟨w.heap.size+1+1,0,none⟩=some (.slice none 0 0):=q_cell hQR8.out 0;have r1:w8.cell? ⟨w.heap.size+1+1,1,none⟩=some (.int .i64 0):=q_cell hQR8.out 1;have r2:w8.cell? ⟨w.heap.size+1+1,2,none⟩=some (.bool false):=q_cell hQR8.out 2;have rf0:=q_free hQR8.out 0;have rf1:=q_free hQR8.out 1;have rf2:=q_free hQR8.out 2))
   refine NoPanic.normal ?_
   replace hb8:Below wr.heap.size wr w8:=(Below.refl _ wr).drew.trans hb8
   have HR8:=hrow.out.keep ((Below.stays hb8 _).toL 0) (M':=Mut b (.slice af nf cf) (.slice apj Pj.length cpj)) (fun _ e => .inl e)
   have r:=q_set (i:=2) (q_set (i:=1) (q_set (i:=0) hQR8.out (.slice a8 Pj.length c8)) (.int .i64 (tried+(j:Nat)))) (.bool false)
   have z0:=q_cell r 0
   have z1:=q_cell r 1
   have z2:=q_cell r 2
   have hr9:=((HR8.setCell (b:=w.heap.size+1+1) (i:=0) (by omega) (.slice a8 Pj.length c8)).setCell (b:=w.heap.size+1+1) (i:=1) (by omega) (.int .i64 (tried+(j:Nat)))).setCell (b:=w.heap.size+1+1) (i:=2) (by omega) (.bool false)
   obtain ⟨av2,cv2,e2,hrc,hcv⟩:=hr9.rc (by omega) (fun x hx=>by have:=hshort.out x hx;omega)
   cases e2
   have hlr:=q_lt hQR.out
   have hic8:=IC.of_owns (owns_keep (w':=((w8.setCell ⟨w.heap.size+1+1,0,none⟩ (.slice a8 Pj.length c8)).setCell ⟨w.heap.size+1+1,1,none⟩ (.int .i64 (tried+(j:Nat)))).setCell ⟨w.heap.size+1+1,2,none⟩ (.bool false)) hown8 (fun q e hl=>by
    have h1:wr.heap.size≤q:=owns_ge hown8 e
    exact ((Below.heap_setCell _ _ _ _ (by show q≠w.heap.size+1+1;omega)).trans (Below.heap_setCell _ _ _ _ (by show q≠w.heap.size+1+1;omega))).trans (Below.heap_setCell _ _ _ _ (by show q≠w.heap.size+1+1;omega)))) (by omega)
   have HIC8:=Lib.hid hic8
   have HRC8:=Lib.hid hrc
   have HR9:=Lib.hid (hr9.free (L':=w.heap.size) (by have:=fB.size;omega))
   have HFP:=Lib.hid (FreshP.of_owns (L:=w.heap.size) hown8 (by have:=fB.size;have:=hbr.size;show w.heap.size≤wr.heap.size;omega))
   clear hown8 hic8 hr9 hrc r r0 r1 r2 rf0 rf1 rf2 HR8
   go_wp2_with fail
   rw[Exit.noGoto_ret]
   refine bodyPost_ret (v := .tuple #[.agg #[.slice a8 Pj.length c8,.int .i64 (tried+(j:Nat)),.bool false],.slice av pre.length cv,.int .i64 0]) ?_ rfl ?_
   ·simp[results,Tryz.f39,go_sem,z0,z1,z2]
   ·refine ⟨a8,Pj.length,c8,av,pre.length,cv,by rw[HRE.out],by rw[HRE.out];exact HIC8.out.1,HIC8.out.2,by rw[HRE.out];exact HRC8.out,hcv,HFP.out,⟨pre,HR9.out,by rw[HRE.out],by omega⟩,?_⟩
    exact (((fB.trans ((hbr.trans (hb8.mono hbr.size)).mono fB.size)).setCell (p:=⟨w.heap.size+1+1,0,none⟩) (by show w.heap.size≤w.heap.size+1+1;omega) _).setCell (p:=⟨w.heap.size+1+1,1,none⟩) (by show w.heap.size≤w.heap.size+1+1;omega) _).setCell (p:=⟨w.heap.size+1+1,2,none⟩) (by show w.heap.size≤w.heap.size+1+1;omega) _
end
section
open Go Go.RowKit
def ContW (H:Nat) (e:Ending) (w w':World) (s:Sta) (l:List (List Int)):Prop :=
 ∃ar nr cr af nf cf,e = .returned (.tuple #[.agg #[.slice ar nr cr,.int .i64 s.2.1,.bool s.2.2],.slice af nf cf,.int .i64 0])∧IC w' ar nr s.1∧nr≤cr∧FreshP H ar nr∧FreshR H w' (.slice af nf cf) l∧Below H w w'
theorem contOk_c (a:Option Addr) (n c:Nat) (ls:List (List Int)) (cells sum:Int) (a':Option Addr) (n' c':Nat) (g:List Int) (ap:Option Addr) (np cp:Nat) (P:List Int) (t:Int) (d:Bool) (b:Nat) (w:World) (h:RC w a n ls) (hcap:n≤c) (h':IC w a' n' g) (hcap':n'≤c') (hP:IC w ap np P) (hcp:np≤cp)
  (hte:taskErr cells ls sum g=0) (hse:stateErr ls sum g P t d=0) (hb:b≤1000000) (htb:t+b≤999999999) :
  Calls Tryz.prog 39 #[.agg #[.int .i64 cells,.slice a n c,.int .i64 sum,.slice a' n' c'],.agg #[.slice ap np cp,.int .i64 t,.bool d],.int .i64 b] w fun e w'=>ContW w.heap.size e w w' (contR ls sum g b (P,t,d)).1 (contR ls sum g b (P,t,d)).2:=by
 have hst:stateE cells ls sum g P t d=0:=by
  unfold stateE
  rw[if_neg (by simpa using hte)]
  exact hse
 have G:=goodTask hte
 obtain ⟨hok,hrc,hdn,ht0,ht1⟩:=good_state hse
 cases d with
 | true =>
  refine (contD_c a n c ls cells sum a' n' c' g ap np cp P t true b w h hcap h' hcap' hP hcp hst ht0 (by omega) (by omega) (by omega) rfl).mono ?_
  rintro e w' ⟨ar,nr,cr,rfl,hi,hc,hf,hbl⟩
  rw[contR_done]
  exact ⟨ar,nr,cr,none,0,0,rfl,hi,hc,hf,FreshR.nil _ _,hbl⟩
 | false =>
  by_cases hz:b=0
  ·subst hz
   refine (contZ_c a n c ls cells sum a' n' c' g ap np cp P t false (0:Nat) w h hcap h' hcap' hP hcp hst ht0 (by omega) (by omega) (by omega) rfl rfl).mono ?_
   rintro e w' ⟨ar,nr,cr,rfl,hi,hc,hf,hbl⟩
   rw[contR_zero]
   exact ⟨ar,nr,cr,none,0,0,rfl,hi,hc,hf,FreshR.nil _ _,hbl⟩
  ·by_cases h0:(openL g).length=0
   ·refine (contO_c G a n c a' n' c' ap np cp P t b w h hcap h' hcap' hP hcp hst ht0 (by omega) (by omega) (by omega) h0).mono ?_
    rintro e w' ⟨af,nf,cf,rfl,hr,hc,hf,hbl⟩
    have hPn:P=[]:=List.eq_nil_of_length_eq_zero (by have:=hok.len;omega)
    subst hPn
    rw[contR_open G h0 (by omega) t]
    exact ⟨none,0,0,af,nf,cf,rfl,IC.nil _,Nat.le_refl _,fun b o h0=>absurd h0 (Nat.not_lt_zero _),hf,hbl⟩
   ·refine (cont_r G a n c a' n' c' ap np cp P t b w h hcap h' hcap' hP hcp hst (by omega) (by omega) ht0 (by omega) (by omega)).mono ?_
    rintro e w' ⟨ar,nr,cr,af,nf,cf,rfl,hi,hc,hr,hcf,hfp,hfr,hbl⟩
    rw[contR_go h0,go_cont G b P t hok hrc]
    exact ⟨ar,nr,cr,af,nf,cf,rfl,hi,hc,hfp,hfr,hbl⟩
end
end Go.Proofs.YtcblpobiefmjmaaGreat
