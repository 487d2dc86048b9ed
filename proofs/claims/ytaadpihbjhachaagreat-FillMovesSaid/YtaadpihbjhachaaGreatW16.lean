/- Texts H12 to H13 of this proof, in one file. -/
import Derived.Test.YtaadpihbjhachaaGreatW07
import Derived.Test.YtaadpihbjhachaaGreatW08
import Derived.Test.YtaadpihbjhachaaGreatW11
import Derived.Test.YtaadpihbjhachaaGreatW12
import Derived.Test.YtaadpihbjhachaaGreatW15
import Derived.Laws.EntriesVeiled
namespace Go.Proofs.YtaadpihbjhachaaGreat
set_option maxRecDepth 100000
set_option maxHeartbeats 16000000
section
open Go Go.RowKit Go.Shelf
attribute [local go_sem] zv
attribute [local go_sem] Oper.semAt_some
def foundAt (ls:List (List Int)) (sum:Int) (g P:List Int):List (List Int):=if (P.length==(zj g).length&&!jE (plC ls sum g) P)=true then [jc (plC ls sum g) P] else []
def kj (ls:List (List Int)) (sum:Int) (g:List Int):Nat→List Int→List Int × Nat × List (List Int) × Bool
 | 0,P=>(P,0,[],false)
 | k+1,P=>match jJ (plC ls sum g) P with
  | none=>([],0,[],true)
  | some P'=>((kj ls sum g k P').1,(kj ls sum g k P').2.1+1,foundAt ls sum g P'++(kj ls sum g k P').2.2.1,(kj ls sum g k P').2.2.2)
def plus (j:Nat) (F:List (List Int)) (r:List Int × Nat × List (List Int) × Bool):List Int × Nat × List (List Int) × Bool:=(r.1,j+r.2.1,F++r.2.2.1,r.2.2.2)
theorem plus_step {ls:List (List Int)} {sum:Int} {g P P':List Int} {B j:Nat} {F:List (List Int)} {R:List Int × Nat × List (List Int) × Bool} (h:R=plus j F (kj ls sum g (B - j) P)) (hj:j<B) (hn:jJ (plC ls sum g) P=some P') :
  R=plus (j+1) (F++foundAt ls sum g P') (kj ls sum g (B - (j+1)) P'):=by
 rw[show B - j=(B - (j+1))+1 from by omega] at h
 rw[h]
 simp only[kj,hn,plus,List.append_assoc]
 rw[show j+((kj ls sum g (B - (j+1)) P').2.1+1)=j+1+(kj ls sum g (B - (j+1)) P').2.1 from by omega]
theorem plus_none {ls:List (List Int)} {sum:Int} {g P:List Int} {B j:Nat} {F:List (List Int)} {R:List Int × Nat × List (List Int) × Bool} (h:R=plus j F (kj ls sum g (B - j) P)) (hj:j<B) (hn:jJ (plC ls sum g) P=none) :
  R=([],j,F,true):=by
 rw[show B - j=(B - (j+1))+1 from by omega] at h
 rw[h]
 simp only[kj,hn,plus,List.append_nil,Nat.add_zero]
theorem plus_end {ls:List (List Int)} {sum:Int} {g P:List Int} {B:Nat} {F:List (List Int)} {R:List Int × Nat × List (List Int) × Bool} (h:R=plus B F (kj ls sum g (B - B) P)):R=(P,B,F,false):=by
 rw[h,Nat.sub_self]
 simp only[kj,plus,List.append_nil,Nat.add_zero]
theorem cont_c {cells:Int} {ls:List (List Int)} {sum:Int} {g:List Int} (G:GoodTask cells ls sum g) (a:Option Addr) (n c:Nat) (a':Option Addr) (n' c':Nat) (ap:Option Addr) (np cp:Nat) (P:List Int) (tried:Int) (B:Nat) (w:World) (h:RC w a n ls) (hcap:n≤c) (h':IC w a' n' g) (hcap':n'≤c') (hP:IC w ap np P) (hcp:np≤cp)
  (hst:stateE cells ls sum g P tried false=0) (hB1:0<B) (hB2:B≤1000000) (ht0:0≤tried) (ht:tried+B≤999999999) (hop:0<(zj g).length) :
  Calls Tryz.prog 54 #[.agg #[.int .i64 cells,.slice a n c,.int .i64 sum,.slice a' n' c'],.agg #[.slice ap np cp,.int .i64 tried,.bool false],.int .i64 B] w fun e w'=>∃ar nr cr af nf cf,e = .returned (.tuple #[.agg #[.slice ar nr cr,.int .i64 (tried+(kj ls sum g B P).2.1),.bool (kj ls sum g B P).2.2.2],.slice af nf cf,.int .i64 0])∧IC w' ar nr (kj ls sum g B P).1∧nr≤cr∧RC w' af nf (kj ls sum g B P).2.2.1∧nf≤cf∧Below w.heap.size w w':=by
 have H:=za h
 have H':=za h'
 have HP:=za hP
 have HG:=za G
 have hgl:=za h'.len
 have hpl:=za hP.len
 have hn2:n'≤256:=by have:=G.glen;have:=h'.len;omega
 have hn1:n≤1000000:=by have:=G.lines;have:=h.len;omega
 have hopl:(zj g).length≤256:=by have:=jA g g.length;have:=G.glen;unfold zj;omega
 have HKS:=za (fun w1 (hb:Below w.heap.size w w1)=>kstate_c a n c ls cells sum a' n' c' g ap np cp P tried false w1 (h.mono hb) hcap (h'.mono hb) hcap' (hP.mono hb) hcp)
 rw[hst] at HKS
 have hte:zx cells ls sum g=0:=by
  unfold stateE at hst
  by_cases e:zx cells ls sum g=0
  ·exact e
  ·rw[if_pos e] at hst;exact absurd hst e
 have hhe:headErr g P tried false=0:=by
  unfold stateE at hst
  rw[if_neg (by simpa using hte)] at hst
  unfold stateErr at hst
  by_cases e:headErr g P tried false=0
  ·exact e
  ·rw[if_pos e] at hst;exact absurd hst e
 have HH:=za (headErr_len hhe)
 obtain ⟨i2,hi,hz0,hz1,hz2⟩:=info_parts infoRow
 clear h h' hP G hst hte hhe
 go_enter Tryz.func54,Tryz.ntmps54
 go_wp2_with fail
 go_step3
 go_wp2_with fail
 have fsz:(((w.alloc (.cells #[.int .i64 cells,.slice a n c,.int .i64 sum,.slice a' n' c'] 27)).alloc (.cells #[.slice ap np cp,.int .i64 tried,.bool false] 98)).alloc (.cells #[.slice none 0 0,.int .i64 0,.bool false] 98)).heap.size=w.heap.size+3:=by simp only[World.size_alloc] <;> omega
 have fB:Below w.heap.size w (((w.alloc (.cells #[.int .i64 cells,.slice a n c,.int .i64 sum,.slice a' n' c'] 27)).alloc (.cells #[.slice ap np cp,.int .i64 tried,.bool false] 98)).alloc (.cells #[.slice none 0 0,.int .i64 0,.bool false] 98)):=(((Below.refl _ _).alloc (Nat.le_refl _) _).alloc (by simp only[World.size_alloc];omega) _).alloc (by simp only[World.size_alloc];omega) _
 have fq0:(((w.alloc (.cells #[.int .i64 cells,.slice a n c,.int .i64 sum,.slice a' n' c'] 27)).alloc (.cells #[.slice ap np cp,.int .i64 tried,.bool false] 98)).alloc (.cells #[.slice none 0 0,.int .i64 0,.bool false] 98)).heap[w.heap.size]?=some (.cells #[.int .i64 cells,.slice a n c,.int .i64 sum,.slice a' n' c'] 27 (0,0)):=by have h:=World.alloc_heap_new w (.cells #[.int .i64 cells,.slice a n c,.int .i64 sum,.slice a' n' c'] 27);exact (Below.heap_alloc _ _ _ (by simp only[World.size_alloc];omega)).trans ((Below.heap_alloc _ _ _ (by simp only[World.size_alloc];omega)).trans (h))
 have fq1:(((w.alloc (.cells #[.int .i64 cells,.slice a n c,.int .i64 sum,.slice a' n' c'] 27)).alloc (.cells #[.slice ap np cp,.int .i64 tried,.bool false] 98)).alloc (.cells #[.slice none 0 0,.int .i64 0,.bool false] 98)).heap[w.heap.size+1]?=some (.cells #[.slice ap np cp,.int .i64 tried,.bool false] 98 (0,0)):=by have h:=World.alloc_heap_new (w.alloc (.cells #[.int .i64 cells,.slice a n c,.int .i64 sum,.slice a' n' c'] 27)) (.cells #[.slice ap np cp,.int .i64 tried,.bool false] 98);simp only[World.size_alloc] at h;exact (Below.heap_alloc _ _ _ (by simp only[World.size_alloc];omega)).trans (h)
 have fq2:(((w.alloc (.cells #[.int .i64 cells,.slice a n c,.int .i64 sum,.slice a' n' c'] 27)).alloc (.cells #[.slice ap np cp,.int .i64 tried,.bool false] 98)).alloc (.cells #[.slice none 0 0,.int .i64 0,.bool false] 98)).heap[w.heap.size+1+1]?=some (.cells #[.slice none 0 0,.int .i64 0,.bool false] 98 (0,0)):=by have h:=World.alloc_heap_new ((w.alloc (.cells #[.int .i64 cells,.slice a n c,.int .i64 sum,.slice a' n' c'] 27)).alloc (.cells #[.slice ap np cp,.int .i64 tried,.bool false] 98)) (.cells #[.slice none 0 0,.int .i64 0,.bool false] 98);simp only[World.size_alloc] at h;exact h
 generalize (((w.alloc (.cells #[.int .i64 cells,.slice a n c,.int .i64 sum,.slice a' n' c'] 27)).alloc (.cells #[.slice ap np cp,.int .i64 tried,.bool false] 98)).alloc (.cells #[.slice none 0 0,.int .i64 0,.bool false] 98))=W0 at fsz fB fq0 fq1 fq2 ⊢
 have fsz':w.heap.size+2<W0.heap.size:=by omega
 have HQ0:=za fq0
 have HQ1:=za fq1
 have HQR:=za fq2
 clear fsz fq0 fq1 fq2
 refine (HKS.out W0 fB).mono ?_
 rintro _ w1 ⟨rfl,hb1⟩
 have hd1:¬(B:Int)<0:=by omega
 have hd2:decide ((B:Int)<0)=false:=decide_eq_false (by omega)
 have hd3:decide ((1000000:Int)<(B:Int))=false:=decide_eq_false (by omega)
 have hd4:decide ((999999999:Int)<tried+(B:Int))=false:=decide_eq_false (by omega)
 have hfl:zz [zn false 3,zn false 4]=0:=by decide
 have hB0:((B:Int)==0)=false:=beq_eq_false_iff_ne.2 (by omega)
 have ho0:((((zj g).length:Nat):Int)==0)=false:=beq_eq_false_iff_ne.2 (by omega)
 have x0:w1.cell? ⟨w.heap.size,0,none⟩=some (.int .i64 cells):=zc (zm hb1 HQ0.out) 0
 have x1:w1.cell? ⟨w.heap.size,1,none⟩=some (.slice a n c):=zc (zm hb1 HQ0.out) 1
 have x2:w1.cell? ⟨w.heap.size,2,none⟩=some (.int .i64 sum):=zc (zm hb1 HQ0.out) 2
 have x3:w1.cell? ⟨w.heap.size,3,none⟩=some (.slice a' n' c'):=zc (zm hb1 HQ0.out) 3
 have y1:w1.cell? ⟨w.heap.size+1,1,none⟩=some (.int .i64 tried):=zc (zm hb1 HQ1.out) 1
 have y2:w1.cell? ⟨w.heap.size+1,2,none⟩=some (.bool false):=zc (zm hb1 HQ1.out) 2
 have xl:=zy (zm hb1 HQ0.out)
 have yl:=zy (zm hb1 HQ1.out)
 clear HKS
 go_wp2_with fail
 refine zk (fun w'=>∃u,w'=over (w1) u) [15,14,13,12] [(0,0),(0,1),(0,2),(0,3),(0,4),(0,5),(0,7),(0,8),(0,9),(0,10),(0,11),(1,6),(2,12),(2,13),(2,14),(2,15)] (by kernel_rfl) (by kernel_rfl) (by exact ⟨_,zi (by repeat (first|assumption|exact Below.refl _ _|refine zd ?_|refine zg ?_ _|refine zb ?_ (by assumption)))⟩) ?_
 dsimp only[zt,zG]
 repeat (first|(refine zu rfl (fun K hK=>?_);go_big_quiet_op;refine hK _ ?_;clear hK K)|(refine zp rfl rfl (fun K hK=>?_);go_big_quiet_op;refine hK _ ?_;clear hK K)|(refine zE ?_;go_wp2_with (first|(go_at_call 66;refine (zO _ _ _).mono ?_;rintro _ w2 ⟨rfl,rfl⟩)|(go_at_call 65;refine (zK _ _ _ _ _ ((IC.new2 _ _ _ _).mono (zd (Below.refl _ _)))).mono ?_;rintro _ w4 ⟨rfl,rfl⟩));refine ⟨?_,?_⟩;focus (exact ⟨_,zi (by repeat (first|assumption|exact Below.refl _ _|refine zd ?_|refine zg ?_ _|refine zb ?_ (by assumption)))⟩)))
 refine zA _ _ _ rfl ?_
 dsimp only[List.map]
 go_wp2_with (first|(go_at_call 66;refine (zO _ _ _).mono ?_;rintro _ w2 ⟨rfl,rfl⟩)|(go_at_call 65;refine (zK _ _ _ _ _ ((IC.new2 _ _ _ _).mono (zd (Below.refl _ _)))).mono ?_;rintro _ w4 ⟨rfl,rfl⟩))
 refine NoPanic.normal ?_
 go_wp2_with fail
 generalize hW5:(w1.alloc (.cells #[.int .i64 (zn false 3),.int .i64 (zn false 4)] 34)).drew=w5
 have hb5:Below w1.heap.size w1 w5:=by rw[← hW5];exact ((Below.refl _ _).alloc (Nat.le_refl _) _).drew
 clear hW5
 have hB5:=hb1.trans (hb5.mono hb1.size)
 have hBW5:=fB.trans (hB5.mono fB.size)
 have hz5:=hB5.size
 have hOlt:∀k,k<w.heap.size→k<w5.heap.size:=fun k hk=>by omega
 have HSO:=za (searchOf_c a n c ls cells sum a' n' c' g w5 (H.out.mono hBW5) hcap hn1 (H'.out.mono hBW5) hn2 (fun k hk=>by have:=HG.out.num k (by have:=hgl.out;omega);have:=HG.out.cells2;omega) (fun l hl=>by have h1:=HG.out.lineLen hl;have h2:=HG.out.len;have h3:=hgl.out;exact ⟨h1.1,fun x hx=>by have:=h1.2 x hx;omega⟩) (fun k=>k<w.heap.size) hOlt (old_lines H.out hBW5))
 clear x0 x1 x2 x3 y1 y2 xl yl hd1 hd2 hd3 hd4 hfl
 refine HSO.out.mono ?_
 rintro _ w6 ⟨b,Im,ao,co,al,cl,vf,rfl,hsr,hb6,hbge,hvge,himge⟩
 have hB6:=hB5.trans (hb6.mono hB5.size)
 have hBW6:=fB.trans (hB6.mono fB.size)
 have HEV:Hid (Even ⟨cells,a,n,c,ls,sum,a',n',c',g,ao,co,al,cl⟩):=HG.out.even
 obtain ⟨af,nf,cf,rfl⟩:∃af nf cf,vf = .slice af nf cf:=by
  obtain ⟨a,c,e⟩:=zr hsr.f
  exact ⟨a,_,c,e⟩
 have HVG:=za hvge
 have hbW:W0.heap.size≤b:=by omega
 have HLD:=za (load_c b Im _ (.slice af nf cf) (.slice none 0 0) [] P ap np cp w6 hsr (HP.out.mono hBW6) (fun h0 p e=>by
  obtain ⟨b9,o9,e9,hl9,_⟩:=HP.out.2 0 h0
  rw[e] at e9
  cases e9
  rintro (h|h|h)
  ·simp only at h;omega
  ·have:=hvge _ h;simp only at this;omega
  ·cases h) (by
  have h1:=path_okP (C:=⟨cells,a,n,c,ls,sum,a',n',c',g,ao,co,al,cl⟩) HH.out.2 HH.out.1 P.length (Nat.le_refl _)
  rw[List.take_length] at h1
  rw[List.nil_append]
  exact h1))
 have y0:w6.cell? ⟨w.heap.size+1,0,none⟩=some (.slice ap np cp):=zc (zm hB6 HQ1.out) 0
 have yl:=zy (zm hB6 HQ1.out)
 have s4:w6.cell? ⟨b,4,none⟩=some (.slice ao (zj g).length co):=hsr.c4
 have sl:=hsr.lt
 clear hsr hvge himge HSO
 go_wp2_with fail
 refine HLD.out.mono ?_
 rintro _ w7 ⟨rfl,vp,hsr7,hst7,hvp7⟩
 have hBo7:Below W0.heap.size W0 w7:=hB6.trans (hst7.below hB6.size (by
  rintro q (e|e|e)
  ·omega
  ·have:=HVG.out q e;omega
  ·cases e))
 have HS7:=za hsr7
 have hvp7':∀q,vp.ownBlock=some q→W0.heap.size≤q:=fun q e=>(hvp7 q e).elim (fun h=>(by cases h)) (fun h=>by have:=hB6.size;omega)
 have HVP7:=za hvp7'
 rw[List.nil_append] at HS7
 clear y0 yl s4 sl hsr7 hst7 hvp7 hvp7' HLD
 go_wp2_with fail
 go_step3
 go_wp2_with fail
 go_loopw [12,13] (fun v i wv=>∃(j:Nat) (vp:Value) (Pj:List Int) (pre:List (Value × List Int)),j≤B∧i = .int .i64 j∧Hid (SR wv b Im ⟨cells,a,n,c,ls,sum,a',n',c',g,ao,co,al,cl⟩ (.slice af nf cf) vp Pj)∧Hid (∀q,vp.ownBlock=some q→W0.heap.size≤q)∧Hid (RowsI wv (Mut b (.slice af nf cf) vp) W0.heap.size v pre)∧Hid (∀q,v.ownBlock=some q→¬Im q)∧pre.length≤j∧Hid (∀x,x∈pre→x.2.length≤256)∧Hid (kj ls sum g B P=plus j (pre.map Prod.snd) (kj ls sum g (B - j) Pj))∧Below W0.heap.size W0 wv) (fun _ i _=>B - (intOf i).toNat)
 case atStart=>exact ⟨0,vp,P,[],by omega,rfl,HS7.out,HVP7.out,RowsI.nil _ _ _,fun q e=>(by cases e),Nat.le_refl _,fun x hx=>absurd hx (by simp),by unfold Hid;simp[plus],hBo7⟩
 case round =>
  obtain ⟨j,vp,Pj,pre,hj,rfl,hsr,hvp,hrow,hni,hlen,hshort,hR,hbr⟩:=hrel
  have hQR:=za (zm hbr HQR.out)
  have hQS:=za (zm hbr HQ1.out)
  obtain ⟨av,cv,rfl⟩:=zr hrow.out.1
  by_cases hlt:j<B
  ·have hji:(j:Int)<(B:Int):=by omega
   have HN:=za (next_c b Im _ (.slice af nf cf) vp Pj wr hsr.out HEV.out)
   rw[nextP_pl] at HN
   dsimp only at HN
   cases hn:jJ (plC ls sum g) Pj with
   | none =>
    have HN2:=HN.out
    rw[hn] at HN2
    have HN3:=za HN2
    have HRE:=za (plus_none hR.out hlt hn)
    clear hn HN HN2
    go_wp2_with fail
    refine HN3.out.mono ?_
    rintro _ w8 ⟨rfl,vp',hsr8,hst8,hvp8⟩
    have hB8:Below W0.heap.size W0 w8:=hbr.trans (hst8.below hbr.size (by
     rintro q (e|e|e)
     ·omega
     ·exact Nat.le_trans (by have:=HVG.out q e;omega) (Nat.le_refl q)
     ·exact hvp.out q e))
    have hQR8:=za (zm hB8 HQR.out)
    have hQS8:=za (zm hB8 HQ1.out)
    have hrow8:=hrow.out.keep (hst8.toL 0) (M':=Mut b (.slice af nf cf) vp) (fun _ e => .inl e)
    have HR8:=za hrow8
    have y1:w8.cell? ⟨w.heap.size+1,1,none⟩=some (.int .i64 tried):=zc hQS8.out 1
    have yl:=zy hQS8.out
    have rl:=zy hQR8.out
    have r0:w8.cell? ⟨w.heap.size+1+1,0,none⟩=some (.slice none 0 0):=zc hQR8.out 0
    have r1:w8.cell? ⟨w.heap.size+1+1,1,none⟩=some (.int .i64 0):=zc hQR8.out 1
    have r2:w8.cell? ⟨w.heap.size+1+1,2,none⟩=some (.bool false):=zc hQR8.out 2
    have rf0:=zo hQR8.out 0
    have rf1:=zo hQR8.out 1
    have rf2:=zo hQR8.out 2
    clear hsr8 hst8 hvp8 hrow8 HN3
    go_wp2_with fail
    have r:=zC (i:=2) (zC (i:=1) (zC (i:=0) hQR8.out (.slice none 0 0)) (.int .i64 (tried+(j:Nat)))) (.bool true)
    have z0:=zc r 0
    have z1:=zc r 1
    have z2:=zc r 2
    have hr9:=((HR8.out.setCell (b:=w.heap.size+1+1) (i:=0) (by omega) (.slice none 0 0)).setCell (b:=w.heap.size+1+1) (i:=1) (by omega) (.int .i64 (tried+(j:Nat)))).setCell (b:=w.heap.size+1+1) (i:=2) (by omega) (.bool true)
    obtain ⟨av2,cv2,e2,hrc,hcv⟩:=hr9.rc (by omega) (fun x hx=>by have:=hshort.out x hx;omega)
    cases e2
    rw[Exit.noGoto_ret]
    refine bodyPost_ret (v := .tuple #[.agg #[.slice none 0 0,.int .i64 (tried+(j:Nat)),.bool true],.slice av pre.length cv,.int .i64 0]) ?_ rfl ?_
    ·simp[results,Tryz.f54,go_sem,z0,z1,z2]
    ·refine ⟨none,0,0,av,pre.length,cv,by rw[HRE.out],by rw[HRE.out];exact IC.nil _,Nat.le_refl _,by rw[HRE.out];exact hrc,hcv,?_⟩
     exact (((fB.trans (hB8.mono fB.size)).setCell (p:=⟨w.heap.size+1+1,0,none⟩) (by show w.heap.size≤w.heap.size+1+1;omega) _).setCell (p:=⟨w.heap.size+1+1,1,none⟩) (by show w.heap.size≤w.heap.size+1+1;omega) _).setCell (p:=⟨w.heap.size+1+1,2,none⟩) (by show w.heap.size≤w.heap.size+1+1;omega) _
   | some P' =>
    have HN2:=HN.out
    rw[hn] at HN2
    have HN3:=za HN2
    have HRE:=za (plus_step hR.out hlt hn)
    clear hn HN HN2
    go_wp2_with fail
    refine HN3.out.mono ?_
    rintro _ w8 ⟨rfl,vp',hsr8,hst8,hvp8⟩
    have hB8:Below W0.heap.size W0 w8:=hbr.trans (hst8.below hbr.size (by
     rintro q (e|e|e)
     ·omega
     ·exact Nat.le_trans (by have:=HVG.out q e;omega) (Nat.le_refl q)
     ·exact hvp.out q e))
    have hvp8':Hid (∀q,vp'.ownBlock=some q→W0.heap.size≤q):=fun q e=>(hvp8 q e).elim (fun h=>hvp.out q h) (fun h=>by have:=hbr.size;omega)
    have hrow8:=hrow.out.keep (hst8.toL 0) (M':=Mut b (.slice af nf cf) vp') (fun q e=>by
     rcases e with e|e|e
     ·exact .inl (.inl e)
     ·exact .inl (.inr (.inl e))
     ·exact (hvp8 q e).imp (fun h => .inr (.inr h)) id)
    have HR8:=za hrow8
    have HS8:Hid (SR w8 b Im ⟨cells,a,n,c,ls,sum,a',n',c',g,ao,co,al,cl⟩ (.slice af nf cf) vp' P'):=hsr8
    have HF:=za (full_c b Im _ (.slice af nf cf) vp' P' w8 HS8.out)
    have hz8:=hB8.size
    clear hsr8 hst8 hvp8 hrow8 HN3
    have HFA:Hid (foundAt ls sum g P'=if (P'.length==(zj g).length&&!jE (plC ls sum g) P')=true then [jc (plC ls sum g) P'] else []):=rfl
    dsimp only[Cst.O] at HF
    cases hfu:(P'.length==(zj g).length) with
    | false =>
     rw[hfu,Bool.false_and,if_neg (by decide)] at HFA
     rw[hfu] at HF
     clear hfu
     go_wp2_with fail
     refine HF.out.mono ?_
     rintro _ w9 ⟨rfl,hb9⟩
     go_wp2_with fail
     go_roundw
     case rel=>exact ⟨j+1,vp',P',pre,by omega,by go_num,HS8.out.below hb9,hvp8'.out,HR8.out.keep ((Below.stays hb9 _).toL 0) (fun _ e => .inl e),hni.out,by omega,hshort.out,by have:=HRE.out;rw[HFA.out,List.append_nil] at this;exact this,hB8.trans (hb9.mono hB8.size)⟩
     case measure=>simp[intOf];omega
    | true =>
     rw[hfu] at HF
     rw[hfu,Bool.true_and] at HFA
     clear hfu
     have HW:=za (fun W (hb:Below w8.heap.size w8 W)=>wrong_c b Im _ (.slice af nf cf) vp' P' W (HS8.out.below hb))
     rw[wrongB_pl] at HW
     dsimp only at HW
     cases hwr:jE (plC ls sum g) P' with
     | true =>
      rw[hwr] at HW
      rw[hwr,if_neg (by decide)] at HFA
      clear hwr
      go_wp2_with fail
      refine HF.out.mono ?_
      rintro _ w9 ⟨rfl,hb9⟩
      go_wp2_with fail
      refine (HW.out w9 hb9).mono ?_
      rintro _ w10 ⟨rfl,hb10⟩
      have hb11:=hb9.trans (hb10.mono hb9.size)
      go_wp2_with fail
      go_roundw
      case rel=>exact ⟨j+1,vp',P',pre,by omega,by go_num,HS8.out.below hb11,hvp8'.out,HR8.out.keep ((Below.stays hb11 _).toL 0) (fun _ e => .inl e),hni.out,by omega,hshort.out,by have:=HRE.out;rw[HFA.out,List.append_nil] at this;exact this,hB8.trans (hb11.mono hB8.size)⟩
      case measure=>simp[intOf];omega
     | false =>
      rw[hwr] at HW
      rw[hwr,if_pos (by decide)] at HFA
      clear hwr
      go_wp2_with fail
      refine HF.out.mono ?_
      rintro _ w9 ⟨rfl,hb9⟩
      go_wp2_with fail
      refine (HW.out w9 hb9).mono ?_
      rintro _ w10 ⟨rfl,hb10⟩
      have hb11:=hb9.trans (hb10.mono hb9.size)
      have hsr10:=HS8.out.below hb11
      have hic:=hsr10.ic
      have hlf:=hic.1.len
      have hle6:(jc (plC ls sum g) P').length≤256:=by rw[fillP_len];show g.length≤256;have:=hgl.out;omega
      have c10:w10.cell? ⟨b,10,none⟩=some (.slice af nf cf):=hsr10.c10
      have sl:=hsr10.lt
      have HCL:=za (clone_c af nf cf (jc (plC ls sum g) P') w10 hic.1)
      clear hsr10 hic hlf
      go_wp2_with fail
      refine HCL.out.mono ?_
      rintro _ w11 ⟨v11,rfl,hown11,hb12⟩
      have hb13:=hb11.trans (hb12.mono hb11.size)
      have hrow11:=HR8.out.keep ((Below.stays hb13 (Mut b (.slice af nf cf) vp')).toL 0) (M':=Mut b (.slice af nf cf) vp') (fun _ e => .inl e)
      obtain ⟨a11,c11,rfl⟩:=zr hown11
      have HO11:=za hown11
      have HR11:=za hrow11
      have hz13:=hb13.size
      have hz11:=hb11.size
      have hra:=hrow11.1
      clear hown11 hrow11 c10 sl HCL
      go_wp2_with (first|(at_builtin;refine zW _ rfl _ _ 22 rfl 25 i2 (.slice none 0 0) 1 24 Tryz.underlying22 hi hz0 hz1 hz2 rfl (by decide) _ _ _ rfl (zI (hra.alloc _) (Nat.zero_le _)) ⟨w11.heap.size,0,none⟩ 1 1 [.slice a11 (jc (plC ls sum g) P').length c11] rfl rfl (cell_one_new _ _ _) (by simp[Value.oneCell']) (by unfold maxLen;omega) (by omega) ?_))
      intro v' w12 hown' hgrow hnew
      have hs12:=qw hgrow
      have hnew2:∀k,v'.ownBlock=some k→(Value.slice av pre.length cv).ownBlock=some k∨w11.heap.size≤k:=fun k e=>(hnew k e).imp id (fun h=>by first|omega|(simp at h;omega))
      have hMlt:∀k,Mut b (.slice af nf cf) vp' k→k<w8.heap.size:=fun k e=>HS8.out.mutLt e
      have hrow12:=HR11.out.append (x:=(.slice a11 (jc (plC ls sum g) P').length c11,jc (plC ls sum g) P')) (v':=v') (fun k e=>Nat.lt_of_lt_of_le (hMlt k e) hz13) (zI HO11.out (by omega)) (fun k e=>by
       have h1:=zL HO11.out e
       exact ⟨fun h2=>by have:=hMlt k h2;omega,fun h2=>by have:=(HR8.out.1.lt k h2).2;omega⟩) hs12 (owns_up hown' (fun k e=>(hnew2 k e).elim (fun h=>zL HR8.out.1 h) (fun h=>by omega))) hnew2
      have HR12:=za hrow12
      have hst13:Stays (fun k=>(Value.slice av pre.length cv).ownBlock=some k) w8 w12:=(Below.stays hb13 _).trans hs12 (fun _ e => .inl e)
      have HS12:Hid (SR w12 b Im ⟨cells,a,n,c,ls,sum,a',n',c',g,ao,co,al,cl⟩ (.slice af nf cf) vp' P'):=HS8.out.keep hst13.size (fun k hk e=>hst13.block k hk (fun e2=>by
       rcases e with e|e
       ·exact hni.out k e2 e
       ·exact HR8.out.2.1 k e2 e))
      obtain ⟨av',cv',rfl⟩:=zr hrow12.1
      have hB12:Below W0.heap.size W0 w12:=hB8.trans (hst13.below hB8.size (fun k e=>zL HR8.out.1 e))
      have HNI:Hid (∀q,(Value.slice av' (pre++[((Value.slice a11 (jc (plC ls sum g) P').length c11),jc (plC ls sum g) P')]).length cv').ownBlock=some q→¬Im q):=fun q e=>(hnew2 q e).elim (fun h=>hni.out q h) (fun h h2=>by have:=HS8.out.imLt q h2;omega)
      clear hown' hgrow hnew hnew2 hrow12 hra
      go_wp2_with fail
      go_roundw
      case rel=>exact ⟨j+1,vp',P',pre++[(Value.slice a11 (jc (plC ls sum g) P').length c11,jc (plC ls sum g) P')],by omega,by go_num,HS12.out,hvp8'.out,HR12.out,HNI.out,by simp;omega,fun x hx=>by
       rcases List.mem_append.1 hx with e|e
       ·exact hshort.out x e
       ·rw[List.mem_singleton.1 e];exact hle6,by have:=HRE.out;rw[HFA.out] at this;rw[List.map_append];exact this,hB12⟩
      case measure=>simp[intOf];omega
  ·have e:j=B:=by omega
   subst e
   have HRE:=za (plus_end hR.out)
   obtain ⟨apj,cpj,rfl⟩:=zr hsr.out.p
   have hicp:=(IC.of_owns hsr.out.p (by have:=hsr.out.ok.len;have h2:(⟨cells,a,n,c,ls,sum,a',n',c',g,ao,co,al,cl⟩:Cst).O.length=(zj g).length:=rfl;omega)).1
   have c11:wr.cell? ⟨b,11,none⟩=some (.slice apj Pj.length cpj):=hsr.out.c11
   have sl:=hsr.out.lt
   have y1:wr.cell? ⟨w.heap.size+1,1,none⟩=some (.int .i64 tried):=zc hQS.out 1
   have yl:=zy hQS.out
   have HCL:=za (fun W (hb:Below wr.heap.size wr W)=>clone_c apj Pj.length cpj Pj W (hicp.mono hb))
   have hpj:Pj.length≤256:=by have:=hsr.out.ok.len;have h2:(⟨cells,a,n,c,ls,sum,a',n',c',g,ao,co,al,cl⟩:Cst).O.length=(zj g).length:=rfl;omega
   clear hicp
   go_wp2_with fail
   refine qp (fun w'=>∃u,w'=over (wr) u) [0,1,2,5,7,10] [11,12,13] [(0,3),(0,6),(0,8),(1,4),(0,9),(2,11),(2,12),(2,13)] (by kernel_rfl) (by kernel_rfl) (by exact ⟨_,zi (by repeat (first|assumption|exact Below.refl _ _|refine zd ?_|refine zg ?_ _|refine zb ?_ (by assumption)))⟩) ?_
   dsimp only[pickF,zG]
   repeat (first|(refine wpF_skip rfl (fun K hK=>?_);go_big_quiet_op;refine hK _ ?_;clear hK K)|(refine kc rfl rfl (fun K hK=>?_);go_big_quiet_op;refine hK _ ?_;clear hK K))
   refine wpF_end ?_
   dsimp only[zt,zG]
   repeat (first|(refine zu rfl (fun K hK=>?_);go_big_quiet_op;refine hK _ ?_;clear hK K)|(refine zp rfl rfl (fun K hK=>?_);go_big_quiet_op;refine hK _ ?_;clear hK K)|(refine zE ?_;go_wp2_with (first|(go_at_call 71;refine (HCL.out _ (zd (Below.refl _ _))).mono ?_;rintro _ w8 ⟨v8,rfl,hown8,hb8⟩;obtain ⟨a8,c8,rfl⟩:=zr hown8;have hQR8:=za (zm hb8 hQR.out);have rl:=zy hQR8.out;have r0:w8.cell? ⟨w.heap.size+1+1,0,none⟩=some (.slice none 0 0):=zc hQR8.out 0;have r1:w8.cell? ⟨w.heap.size+1+1,1,none⟩=some (.int .i64 0):=zc hQR8.out 1;have r2:w8.cell? ⟨w.heap.size+1+1,2,none⟩=some (.bool false):=zc hQR8.out 2;have rf0:=zo hQR8.out 0;have rf1:=zo hQR8.out 1;have rf2:=zo hQR8.out 2));refine ⟨?_,?_⟩;focus (exact ⟨_,zi (by repeat (first|assumption|exact Below.refl _ _|refine zd ?_|refine zg ?_ _|refine zb ?_ (by assumption)))⟩)))
   refine zA _ _ _ rfl ?_
   dsimp only[List.map]
   go_wp2_with (first|(go_at_call 71;refine (HCL.out _ (zd (Below.refl _ _))).mono ?_;rintro _ w8 ⟨v8,rfl,hown8,hb8⟩;obtain ⟨a8,c8,rfl⟩:=zr hown8;have hQR8:=za (zm hb8 hQR.out);have rl:=zy hQR8.out;have r0:w8.cell? ⟨w.heap.size+1+1,0,none⟩=some (.slice none 0 0):=zc hQR8.out 0;have r1:w8.cell? ⟨w.heap.size+1+1,1,none⟩=some (.int .i64 0):=zc hQR8.out 1;have r2:w8.cell? ⟨w.heap.size+1+1,2,none⟩=some (.bool false):=zc hQR8.out 2;have rf0:=zo hQR8.out 0;have rf1:=zo hQR8.out 1;have rf2:=zo hQR8.out 2))
   refine NoPanic.normal ?_
   replace hb8:Below wr.heap.size wr w8:=(Below.refl _ wr).drew.trans hb8
   have HR8:=hrow.out.keep ((Below.stays hb8 _).toL 0) (M':=Mut b (.slice af nf cf) (.slice apj Pj.length cpj)) (fun _ e => .inl e)
   have r:=zC (i:=2) (zC (i:=1) (zC (i:=0) hQR8.out (.slice a8 Pj.length c8)) (.int .i64 (tried+(j:Nat)))) (.bool false)
   have z0:=zc r 0
   have z1:=zc r 1
   have z2:=zc r 2
   have hr9:=((HR8.setCell (b:=w.heap.size+1+1) (i:=0) (by omega) (.slice a8 Pj.length c8)).setCell (b:=w.heap.size+1+1) (i:=1) (by omega) (.int .i64 (tried+(j:Nat)))).setCell (b:=w.heap.size+1+1) (i:=2) (by omega) (.bool false)
   obtain ⟨av2,cv2,e2,hrc,hcv⟩:=hr9.rc (by omega) (fun x hx=>by have:=hshort.out x hx;omega)
   cases e2
   have hlr:=zy hQR.out
   have hic8:=IC.of_owns (zw (w':=((w8.setCell ⟨w.heap.size+1+1,0,none⟩ (.slice a8 Pj.length c8)).setCell ⟨w.heap.size+1+1,1,none⟩ (.int .i64 (tried+(j:Nat)))).setCell ⟨w.heap.size+1+1,2,none⟩ (.bool false)) hown8 (fun q e hl=>by
    have h1:wr.heap.size≤q:=zL hown8 e
    exact ((Below.heap_setCell _ _ _ _ (by show q≠w.heap.size+1+1;omega)).trans (Below.heap_setCell _ _ _ _ (by show q≠w.heap.size+1+1;omega))).trans (Below.heap_setCell _ _ _ _ (by show q≠w.heap.size+1+1;omega)))) (by omega)
   have HIC8:=za hic8
   have HRC8:=za hrc
   clear hown8 hic8 hr9 hrc r r0 r1 r2 rf0 rf1 rf2 HR8
   go_wp2_with fail
   rw[Exit.noGoto_ret]
   refine bodyPost_ret (v := .tuple #[.agg #[.slice a8 Pj.length c8,.int .i64 (tried+(j:Nat)),.bool false],.slice av pre.length cv,.int .i64 0]) ?_ rfl ?_
   ·simp[results,Tryz.f54,go_sem,z0,z1,z2]
   ·refine ⟨a8,Pj.length,c8,av,pre.length,cv,by rw[HRE.out],by rw[HRE.out];exact HIC8.out.1,HIC8.out.2,by rw[HRE.out];exact HRC8.out,hcv,?_⟩
    exact (((fB.trans ((hbr.trans (hb8.mono hbr.size)).mono fB.size)).setCell (p:=⟨w.heap.size+1+1,0,none⟩) (by show w.heap.size≤w.heap.size+1+1;omega) _).setCell (p:=⟨w.heap.size+1+1,1,none⟩) (by show w.heap.size≤w.heap.size+1+1;omega) _).setCell (p:=⟨w.heap.size+1+1,2,none⟩) (by show w.heap.size≤w.heap.size+1+1;omega) _
end
section
open Go Go.RowKit
attribute [local go_sem] zv
attribute [local go_sem] Oper.semAt_some
theorem infoNode:(Tryz.prog.info? 104).map (fun i=>(i.zero,i.size,i.bytes))=some (some (.agg #[.string ⟨#[]⟩,.int .i64 0,.int .i64 0,.int .i64 0,.int .i64 0]),5,48):=by kernel_rfl
theorem not_hasB {g:List Int} {x:Int} (h:zY g x=false) (i:Nat) (hi:i<g.length):g[i]?.getD 0≠x:=by
 intro e
 rw[List.getElem?_eq_getElem hi,Option.getD_some] at e
 have:zY g x=true:=by unfold zY;rw[List.contains_iff_mem,← e];exact List.getElem_mem hi
 rw[h] at this
 cases this
theorem set_get (g:List Int) (k i:Nat) (x:Int) (hk:k<g.length):(g.set k x)[i]?.getD 0=if i=k then x else g[i]?.getD 0:=by
 by_cases e:i=k
 ·subst e;rw[List.getElem?_set_self hk,if_pos rfl];rfl
 ·rw[List.getElem?_set_ne (fun h=>e h.symm),if_neg e]
theorem GoodTask.put {cells:Int} {ls:List (List Int)} {sum:Int} {g:List Int} (h:GoodTask cells ls sum g) {k:Nat} {x:Int} (hk:k<g.length) (hx:x∈zh g):GoodTask cells ls sum (g.set k x):=by
 have hu:=zT.1 hx
 have hl:=h.len
 refine ⟨h.cells1,h.cells2,h.lines,h.sum1,h.sum2,by rw[List.length_set];exact hl,h.some,h.mem,h.asc,fun i hi=>?_,fun i j hij hj hp=>?_⟩
 ·rw[List.length_set] at hi
  rw[set_get g k i x hk]
  split
  ·omega
  ·exact h.num i hi
 ·rw[List.length_set] at hj
  rw[set_get g k i x hk,set_get g k j x hk]
  rw[set_get g k j x hk] at hp
  by_cases e1:i=k
  ·rw[if_pos e1]
   rw[if_neg (by omega)]
   exact fun e=>not_hasB hu.2.2 j hj e.symm
  ·rw[if_neg e1]
   by_cases e2:j=k
   ·rw[if_pos e2];exact not_hasB hu.2.2 i (by omega)
   ·rw[if_neg e2] at hp ⊢
    exact h.apart i j hij hj hp
def okTB (ls:List (List Int)) (sum:Int):Nat→List Int→Bool
 | 0,_=>false
 | f+1,g=>decide (0≤zV ls g sum) ||
  (decide (0≤zQ ls g sum)&&decide (zQ ls g sum<g.length)&&g[(zQ ls g sum).toNat]?.getD 0==0&&(zh g).all fun x=>okTB ls sum f (g.set (zQ ls g sum).toNat x))
structure RF (w:World) (L bt bo br gb cg:Nat) (cells:Int) (a:Option Addr) (n c:Nat) (sum:Int) (n':Nat) (g:List Int) (v:Value) (T:List Nd):Prop where
 qt:w.heap[bt]?=some (.cells #[.int .i64 cells,.slice a n c,.int .i64 sum,.slice (some ⟨gb,0,none⟩) n' cg] 27 (0,0))
 qo:w.heap[bo]?=some (.cells #[v] 44 (0,0))
 qr:w.heap[br]?=some (.cells #[.func (Fn.func 72) #[] #[.pointer (some ⟨bt,0,none⟩),.pointer (some ⟨bo,0,none⟩),.pointer (some ⟨br,0,none⟩)]] 1 (0,0))
 og:w.ownsRow 0 3 1 (.slice (some ⟨gb,0,none⟩) n' cg) n' (g.map (Value.int .i64))
 ov:w.ownsRow L 104 5 v T.length (qL T)
 lt:bt<L∧bo<L∧br<L
 ne:bo≠bt∧bo≠br
 nv:v.ownBlock≠some gb
 gne:gb≠bt∧gb≠bo∧gb≠br
theorem RF.keep {w w':World} {L bt bo br gb cg:Nat} {cells:Int} {a:Option Addr} {n c:Nat} {sum:Int} {n':Nat} {g:List Int} {v:Value} {T:List Nd} (h:RF w L bt bo br gb cg cells a n c sum n' g v T) (hb:Below w.heap.size w w'):RF w' L bt bo br gb cg cells a n c sum n' g v T :=
 ⟨zm hb h.qt,zm hb h.qo,zm hb h.qr,zw h.og (fun i _ hl=>hb.block i hl),zw h.ov (fun i _ hl=>hb.block i hl),h.lt,h.ne,h.nv,h.gne⟩
theorem RF.len {w:World} {L bt bo br gb cg:Nat} {cells:Int} {a:Option Addr} {n c:Nat} {sum:Int} {n':Nat} {g:List Int} {v:Value} {T:List Nd} (h:RF w L bt bo br gb cg cells a n c sum n' g v T):g.length=n':=by
 have:=h.og.1
 rw[List.length_map] at this
 omega
theorem RF.put {w:World} {L bt bo br gb cg:Nat} {cells:Int} {a:Option Addr} {n c:Nat} {sum:Int} {n':Nat} {g:List Int} {v:Value} {T:List Nd} (h:RF w L bt bo br gb cg cells a n c sum n' g v T) (k:Nat) (x:Int):RF (w.setCell ⟨gb,k,none⟩ (.int .i64 x)) L bt bo br gb cg cells a n c sum n' (g.set k x) v T :=
 ⟨zU h.qt (Ne.symm h.gne.1) _,zU h.qo (Ne.symm h.gne.2.1) _,zU h.qr (Ne.symm h.gne.2.2) _,by rw[List.map_set];exact qJ h.og k _,zw h.ov (fun i e _=>Below.heap_setCell _ _ _ _ (fun e2=>h.nv (by rw[e];simp at e2;rw[e2]))),h.lt,h.ne,h.nv,h.gne⟩
theorem RF.node {w w2:World} {L bt bo br gb cg:Nat} {cells:Int} {a:Option Addr} {n c:Nat} {sum:Int} {n':Nat} {g:List Int} {v v':Value} {T:List Nd} {d:Nd} (h:RF w L bt bo br gb cg cells a n c sum n' g v T)
  (hs:Stays (fun k=>v.ownBlock=some k) w w2) (hown:w2.ownsRow 0 104 5 v' (T.length+1) (qL T++ndA d)) (hnew:∀k,v'.ownBlock=some k→v.ownBlock=some k∨w.heap.size≤k) (hL:L≤w.heap.size) :
  RF (w2.setCell ⟨bo,0,none⟩ v') L bt bo br gb cg cells a n c sum n' g v' (T++[d]):=by
 have hg:=h.gne
 have h1:=h.lt
 have hge:∀k,v.ownBlock=some k→L≤k:=fun k e=>zL h.ov e
 have hgl:gb<w.heap.size:=(h.og.lt gb rfl).2
 refine ⟨zU (je hs h.qt (fun e=>by have:=hge _ e;omega)) (Ne.symm h.ne.1) _,?_,zU (je hs h.qr (fun e=>by have:=hge _ e;omega)) (Ne.symm h.ne.2) _,
  zw (zw h.og (fun i e hl=>hs.block i hl (fun e2=>by simp only[Value.ownBlock,Option.some.injEq] at e;exact h.nv (by rw[e2,e])))) (fun i e _=>Below.heap_setCell _ _ _ _ (fun e2=>by simp only[Value.ownBlock,Option.some.injEq] at e;simp at e2;omega)),?_,h1,h.ne,?_,h.gne⟩
 ·have:=zC (i:=0) (je hs h.qo (fun e=>by have:=hge _ e;omega)) v'
  simpa using this
 ·rw[List.length_append,ndsL_append]
  simp only[List.length_cons,List.length_nil,qL,List.append_nil]
  refine zw (owns_up hown (fun k e=>(hnew k e).elim (hge k) (fun e2=>by omega))) (fun i e _=>Below.heap_setCell _ _ _ _ (fun e2=>?_))
  have:=(hnew i e).elim (hge i) (fun e2=>by omega)
  simp at e2
  omega
 ·intro e
  rcases hnew gb e with e2|e2
  ·exact h.nv e2
  ·omega
theorem cell_new5 (w:World) (x0 x1 x2 x3 x4:Value) (T:TypeId):∀j u,[x0,x1,x2,x3,x4][j]?=some u→(w.alloc (.cells #[x0,x1,x2,x3,x4] T)).cell? ((⟨w.heap.size,0,none⟩:Addr).add j)=some u:=by
 intro j u hj
 have h:=zq w #[x0,x1,x2,x3,x4] T j
 have hj2:(#[x0,x1,x2,x3,x4]:Array Value)[j]?=some u:=by simpa using hj
 rw[hj2] at h
 rw[← h]
 unfold Addr.add
 split
 ·rename_i e;subst e;rfl
 ·simp
theorem flat_take {α:Type} (F:Int→List α) (l:List Int) (k:Nat):((l.take k).flatMap F).length≤(l.flatMap F).length:=by
 have h:l.flatMap F=(l.take k).flatMap F++(l.drop k).flatMap F:=by rw[← List.flatMap_append,List.take_append_drop]
 rw[h,List.length_append]
 omega
theorem flat_snoc {α:Type} (F:Int→List α) (l:List Int) (k:Nat) (hk:k<l.length):(l.take (k+1)).flatMap F=(l.take k).flatMap F++F (l[k]?.getD 0):=by
 rw[zP l 0 k hk,List.flatMap_append]
 simp
theorem set_back {g:List Int} {k:Nat} (h:g[k]?.getD 0=0):g.set k 0=g:=by
 apply List.ext_getElem?
 intro i
 by_cases e:k=i
 ·subst e
  by_cases hl:k<g.length
  ·rw[List.getElem?_set_self hl,List.getElem?_eq_getElem hl]
   rw[List.getElem?_eq_getElem hl] at h
   exact congrArg some h.symm
  ·rw[List.getElem?_eq_none (by rw[List.length_set];omega),List.getElem?_eq_none (by omega)]
 ·rw[List.getElem?_set_ne e]
def MF (bo gb:Nat) (v:Value) (k:Nat):Prop:=k=bo∨k=gb∨v.ownBlock=some k
theorem ref1_c {cells:Int} {ls:List (List Int)} {sum:Int} (w0:World) (L bt bo br gb cg:Nat) (a:Option Addr) (n c n':Nat) (hrc:RC w0 a n ls) (hL0:w0.heap.size≤bt∧w0.heap.size≤bo∧w0.heap.size≤gb):∀(f:Nat) (g:List Int) (v:Value) (T:List Nd) (w:World),RF w L bt bo br gb cg cells a n c sum n' g v T→GoodTask cells ls sum g→Below w0.heap.size w0 w→L≤w.heap.size→okTB ls sum f g=true→T.length+(ji ls sum f g).length≤1000000000000 →
  Calls Tryz.prog 72 #[.pointer (some ⟨bt,0,none⟩),.pointer (some ⟨bo,0,none⟩),.pointer (some ⟨br,0,none⟩)] w fun e w'=>e = .returned (.tuple #[])∧∃v',RF w' L bt bo br gb cg cells a n c sum n' g v' (T++ji ls sum f g)∧Stays (MF bo gb v) w w'∧∀k,v'.ownBlock=some k→v.ownBlock=some k∨w.heap.size≤k:=by
 intro f
 induction f with
 | zero=>intro g v T w _ _ _ _ h;simp[okTB] at h
 | succ f ih =>
  intro g v T w hrf hG hB0 hLw hok hbig
  obtain ⟨i0,hi,hz0,hzz,hz2⟩:=info_parts infoNode
  have HIH:=za ih
  have HRF:=za hrf
  have HG:=za hG
  have hMT:Hid (ji ls sum (f+1) g=if 0≤zV ls g sum then [⟨kLine,0,zV ls g sum,0,0⟩] else ⟨kCell,zQ ls g sum,0,0,(zh g).length⟩ :: (zh g).flatMap fun x=>ji ls sum f (g.set (zQ ls g sum).toNat x)):=rfl
  have hOK:Hid ((decide (0≤zV ls g sum) ||
  (decide (0≤zQ ls g sum)&&decide (zQ ls g sum<g.length)&&g[(zQ ls g sum).toNat]?.getD 0==0&&(zh g).all fun x=>okTB ls sum f (g.set (zQ ls g sum).toNat x)))=true):=hok
  obtain ⟨av,cv,rfl⟩:=zM hrf.ov
  have hgl:=hrf.len
  have hn2:n'≤256:=by have:=hG.glen;omega
  have hic:IC w (some ⟨gb,0,none⟩) n' g:=by
   have hog:=hrf.og
   rw[← hgl] at hog
   have:=(IC.of_owns hog (by omega)).1
   rw[hgl] at this
   exact this
  have x0:w.cell? ⟨bt,0,none⟩=some (.int .i64 cells):=zc hrf.qt 0
  have x1:w.cell? ⟨bt,1,none⟩=some (.slice a n c):=zc hrf.qt 1
  have x2:w.cell? ⟨bt,2,none⟩=some (.int .i64 sum):=zc hrf.qt 2
  have x3:w.cell? ⟨bt,3,none⟩=some (.slice (some ⟨gb,0,none⟩) n' cg):=zc hrf.qt 3
  have hbt:=zy hrf.qt
  clear ih hrf hG hok
  go_enter Tryz.func72,Tryz.ntmps72
  go_wp2_with fail
  refine (qX (.slice a n c) cells sum (some ⟨gb,0,none⟩) n' cg g w hic hn2 (fun k hk=>HG.out.num' k)).mono ?_
  rintro _ w1 ⟨vu,rfl,hownu,hb1⟩
  obtain ⟨au,cu,rfl⟩:=zr hownu
  have HU1:=za hownu
  have hul:(zh g).length≤256:=by have:=jd g g.length;have:=HG.out.glen;unfold zh;omega
  have hicu:=(IC.of_owns hownu (by omega)).1
  have HRF1:=za (HRF.out.keep hb1)
  have HIC1:=za (hic.mono hb1)
  have hB1:=hB0.trans (hb1.mono hB0.size)
  have y0:w1.cell? ⟨bt,0,none⟩=some (.int .i64 cells):=zc HRF1.out.qt 0
  have y1:w1.cell? ⟨bt,1,none⟩=some (.slice a n c):=zc HRF1.out.qt 1
  have y2:w1.cell? ⟨bt,2,none⟩=some (.int .i64 sum):=zc HRF1.out.qt 2
  have y3:w1.cell? ⟨bt,3,none⟩=some (.slice (some ⟨gb,0,none⟩) n' cg):=zc HRF1.out.qt 3
  have hbt1:=zy HRF1.out.qt
  have HTI:=za (tight_c HG.out a n c (some ⟨gb,0,none⟩) n' cg au (zh g).length cu w1 (hrc.mono hB1) HIC1.out hicu)
  clear x0 x1 x2 x3 hbt hownu hicu hic
  go_wp2_with fail
  refine HTI.out.mono ?_
  rintro _ w2 ⟨rfl,hb2⟩
  clear y0 y1 y2 y3 hbt1 HTI
  obtain ⟨line,hline⟩:∃x,zV ls g sum=x:=⟨_,rfl⟩
  obtain ⟨cell,hcell⟩:∃x,zQ ls g sum=x:=⟨_,rfl⟩
  rw[hline,hcell] at hMT hOK
  rw[hline,hcell]
  have HRF2:=za (HRF1.out.keep hb2)
  have hb12:=hb1.trans (hb2.mono hb1.size)
  have c0:w2.cell? ⟨bo,0,none⟩=some (.slice av T.length cv):=zc HRF2.out.qo 0
  have f0:=zo HRF2.out.qo 0
  have hbo:=zy HRF2.out.qo
  have hov:=zI HRF2.out.ov (Nat.zero_le _)
  clear hline hcell
  by_cases hl:0≤line
  ·have hM1:Hid (ji ls sum (f+1) g=[⟨kLine,0,line,0,0⟩]):=by unfold Hid;rw[hMT.out,if_pos hl]
   have hbig2:T.length+1≤1000000000000:=by rw[hM1.out] at hbig;simpa using hbig
   have hge:line≥0:=hl
   clear hbig
   go_wp2_with (first|(at_builtin;refine zW _ rfl _ _ 44 rfl 104 i0 (.agg #[.string ⟨#[]⟩,.int .i64 0,.int .i64 0,.int .i64 0,.int .i64 0]) 5 48 Tryz.underlying44 hi hz0 hzz hz2 rfl (by decide) _ _ _ rfl (hov.alloc _) ⟨w2.heap.size,0,none⟩ 1 1 [.string ⟨#[108,105,110,101]⟩,.int .i64 0,.int .i64 line,.int .i64 0,.int .i64 0] rfl rfl (cell_new5 _ _ _ _ _ _ _) (by simp[Value.oneCell']) (by unfold maxLen;omega) (by omega) ?_))
   intro v' w3 hown' hgrow hnew
   have hs3:=jR hgrow
   have hnew2:∀k,v'.ownBlock=some k→(Value.slice av T.length cv).ownBlock=some k∨w2.heap.size≤k:=fun k e=>(hnew k e).imp id (fun h=>by first|omega|(simp at h;omega))
   have HFIN:=za (HRF2.out.node (d:=⟨kLine,0,line,0,0⟩) hs3 hown' hnew2 (by have:=hb12.size;omega))
   have hq3:=je hs3 HRF2.out.qo (fun e=>by have:=zL HRF2.out.ov e;have:=HRF2.out.lt;omega)
   have c3:=zc hq3 0
   have f3:=zo hq3 0
   have HN2:=za hnew2
   have HS3:=za hs3
   obtain ⟨av3,cv3,rfl⟩:=zM hown'
   clear hown' hgrow hnew hnew2 hs3 c0 f0 hov
   go_wp2_with fail
   refine bodyPost_ret (v := .tuple #[]) (by simp[results,Tryz.f72,go_sem]) rfl ?_
   refine ⟨rfl,_,by rw[hM1.out];exact HFIN.out,?_,fun k e=>(HN2.out k e).imp id (fun h=>by have:=hb12.size;omega)⟩
   exact ((Below.stays hb12 _).trans (HS3.out.mono (T:=MF bo gb (Value.slice av T.length cv)) (fun k e => .inr (.inr e))) (fun _ e => .inl e)).trans (Stays.setCell (S:=fun k=>k=bo) w3 (p:=⟨bo,0,none⟩) rfl _) (fun _ e => .inl (.inl e))
  ·have hM1:Hid (ji ls sum (f+1) g=⟨kCell,cell,0,0,(zh g).length⟩ :: (zh g).flatMap fun x=>ji ls sum f (g.set cell.toNat x)):=by unfold Hid;rw[hMT.out,if_neg hl]
   have hok2:=hOK.out
   rw[decide_eq_false hl,Bool.false_or] at hok2
   simp only[Bool.and_eq_true,decide_eq_true_eq,beq_iff_eq,List.all_eq_true] at hok2
   obtain ⟨⟨⟨ho1,ho2⟩,ho3⟩,ho4⟩:=hok2
   obtain ⟨cc,rfl⟩:∃cc:Nat,cell=(cc:Int):=⟨cell.toNat,by omega⟩
   rw[Int.toNat_natCast] at ho3 ho4
   have HO4:=za ho4
   have HO3:=za ho3
   have hcc:cc<n':=by omega
   rw[Int.toNat_natCast] at hM1
   have hbig2:T.length+1≤1000000000000:=by rw[hM1.out] at hbig;simp only[List.length_cons] at hbig;omega
   have hge:¬line≥0:=hl
   have HBIG:=za hbig
   clear hbig ho1 ho2 ho3 ho4 hOK
   go_wp2_with (first|(at_builtin;refine zW _ rfl _ _ 44 rfl 104 i0 (.agg #[.string ⟨#[]⟩,.int .i64 0,.int .i64 0,.int .i64 0,.int .i64 0]) 5 48 Tryz.underlying44 hi hz0 hzz hz2 rfl (by decide) _ _ _ rfl (hov.alloc _) ⟨w2.heap.size,0,none⟩ 1 1 [.string ⟨#[99,101,108,108]⟩,.int .i64 (cc:Int),.int .i64 0,.int .i64 0,.int .i64 ((zh g).length:Int)] rfl rfl (cell_new5 _ _ _ _ _ _ _) (by simp[Value.oneCell']) (by unfold maxLen;omega) (by omega) ?_))
   intro v' w3 hown' hgrow hnew
   have hs3:=jR hgrow
   have hnew2:∀k,v'.ownBlock=some k→(Value.slice av T.length cv).ownBlock=some k∨w2.heap.size≤k:=fun k e=>(hnew k e).imp id (fun h=>by first|omega|(simp at h;omega))
   have HFIN:=za (HRF2.out.node (d:=⟨kCell,cc,0,0,(zh g).length⟩) hs3 hown' hnew2 (by have:=hb12.size;omega))
   have hq3:=je hs3 HRF2.out.qo (fun e=>by have:=zL HRF2.out.ov e;have:=HRF2.out.lt;omega)
   have c3:=zc hq3 0
   have f3:=zo hq3 0
   have hbo3:=zy hq3
   have HN2:=za hnew2
   have HS3:=za hs3
   have hz12:=hb12.size
   have HSA:Hid (Stays (MF bo gb (Value.slice av T.length cv)) w (w3.setCell ⟨bo,0,none⟩ v')):=((Below.stays hb12 _).trans (HS3.out.mono (T:=MF bo gb (Value.slice av T.length cv)) (fun k e => .inr (.inr e))) (fun _ e => .inl e)).trans (Stays.setCell (S:=fun k=>k=bo) w3 (p:=⟨bo,0,none⟩) rfl _) (fun _ e => .inl (.inl e))
   have HVA:Hid (∀k,v'.ownBlock=some k→(Value.slice av T.length cv).ownBlock=some k∨w.heap.size≤k):=fun k e=>(HN2.out k e).imp id (fun h=>by omega)
   obtain ⟨av3,cv3,rfl⟩:=zM hown'
   have hzz3:w2.heap.size≤w3.heap.size:=hs3.size
   have HUA:Hid ((w3.setCell ⟨bo,0,none⟩ (.slice av3 (T.length+1) cv3)).ownsRow w.heap.size 3 1 (.slice au (zh g).length cu) (zh g).length ((zh g).map (Value.int .i64))):=by
    refine zw HU1.out (fun i e hl=>?_)
    have h1:=zL HU1.out e
    have h2:=(HRF.out.og.lt gb rfl).2
    refine (Below.heap_setCell _ _ _ _ (fun e2=>by have:=zy HRF.out.qo;simp at e2;omega)).trans ((hs3.block i (by have:=hb2.size;omega) (fun e2=>by have:=(HRF.out.ov.lt i e2).2;omega)).trans (hb2.block i hl))
   clear hown' hgrow hnew hnew2 hs3 c0 f0 hov
   go_wp2_with fail
   generalize (w3.setCell ⟨bo,0,none⟩ (.slice av3 (T.length+1) cv3))=w4 at HFIN HSA HUA ⊢
   have HAU:Hid (∀k,(Value.slice au (zh g).length cu).ownBlock=some k→(Value.slice av3 (T.length+1) cv3).ownBlock≠some k):=fun k e e2=>by
    have h1:=zL HU1.out e
    have h2:=(HU1.out.lt k e).2
    rcases HN2.out k e2 with h3|h3
    ·have:=(HRF.out.ov.lt k h3).2;omega
    ·have:=hb2.size;omega
   go_loopw [7,32] (fun _ i wr=>∃(j:Nat) (vj:Value) (gj:List Int),j≤(zh g).length∧i = .int .i64 j∧Hid (RF wr L bt bo br gb cg cells a n c sum n' gj vj (T++⟨kCell,cc,0,0,(zh g).length⟩ :: ((zh g).take j).flatMap fun x=>ji ls sum f (g.set cc x)))∧Hid (∀x,gj.set cc x=g.set cc x)∧Hid (Stays (MF bo gb (Value.slice av T.length cv)) w wr)∧Hid (∀k,vj.ownBlock=some k→(Value.slice av T.length cv).ownBlock=some k∨w.heap.size≤k)∧Hid (wr.ownsRow w.heap.size 3 1 (.slice au (zh g).length cu) (zh g).length ((zh g).map (Value.int .i64)))∧Hid (∀k,(Value.slice au (zh g).length cu).ownBlock=some k→vj.ownBlock≠some k)) (fun _ i _=>(zh g).length - (intOf i).toNat)
   case atStart =>
    exact ⟨0,_,g,by omega,rfl,by unfold Hid;simpa using HFIN.out,fun _=>rfl,HSA.out,HVA.out,HUA.out,HAU.out⟩
   case round =>
    obtain ⟨j,vj,gj,hj,rfl,hrf,hset,hst,hvj,hu,hau⟩:=hrel
    have hggb:=HRF.out.gne
    have x3:wr.cell? ⟨bt,3,none⟩=some (.slice (some ⟨gb,0,none⟩) n' cg):=zc hrf.out.qt 3
    have hbt:=zy hrf.out.qt
    obtain ⟨g9,cap9,x9,hv9,_,hc9,hf9,hg9,_⟩:=jq hrf.out.og cc hcc
    simp only[Value.slice.injEq,Option.some.injEq,Addr.mk.injEq,true_and,and_true] at hv9
    obtain ⟨rfl,hcap9⟩:=hv9
    clear hcap9
    have hci:(cc:Int)<(n':Int):=by omega
    by_cases hlt:j<(zh g).length
    ·have hicu:=(IC.of_owns hu.out (by omega)).1
     obtain ⟨bu,ou,rfl,hbu,hcu⟩:=hicu.2 j hlt
     have hji:(j:Int)<((zh g).length:Int):=by omega
     have hxm:(zh g)[j]?.getD 0∈zh g:=by rw[List.getElem?_eq_getElem hlt];exact List.getElem_mem hlt
     have HFS:=za (flat_snoc (fun x=>ji ls sum f (g.set cc x)) (zh g) j hlt)
     have HFT:=za (flat_take (fun x=>ji ls sum f (g.set cc x)) (zh g) (j+1))
     have HXM:=za hxm
     have HX4:=za (HO4.out _ hxm)
     clear hxm hicu
     obtain ⟨x,hx⟩:∃x,(zh g)[j]?.getD 0=x:=⟨_,rfl⟩
     rw[hx] at hcu HFS HXM HX4
     clear hx
     have HRP:=za (hrf.out.put cc x)
     rw[hset.out x] at HRP
     have fb:wr.cell? ⟨br,0,none⟩=some (.func (Fn.func 72) #[] #[.pointer (some ⟨bt,0,none⟩),.pointer (some ⟨bo,0,none⟩),.pointer (some ⟨br,0,none⟩)]):=zc hrf.out.qr 0
     have hbr9:=zy hrf.out.qr
     have hlts:=HRF.out.lt
     have hne1:¬gb=br:=hggb.2.2
     have hne2:¬br=gb:=Ne.symm hggb.2.2
     go_wp2_with fail
     have hsP:Stays (fun k=>k=gb) wr (wr.setCell ⟨gb,cc,none⟩ (.int .i64 x)):=Stays.setCell (S:=fun k=>k=gb) wr (p:=⟨gb,cc,none⟩) rfl _
     have HSP:=za hsP
     have hww:w.heap.size≤wr.heap.size:=hst.out.size
     have hwl:w0.heap.size≤w.heap.size:=hB0.size
     have hB0r:Below w0.heap.size w0 (wr.setCell ⟨gb,cc,none⟩ (.int .i64 x)):=hB0.trans (((hst.out.below (B:=w0.heap.size) hwl (fun k e=>by
      rcases e with e|e|e
      ·omega
      ·omega
      ·have:=zL HRF.out.ov e;omega)).trans (hsP.below (B:=w0.heap.size) (by omega) (fun k e=>by omega))))
     refine (HIH.out (g.set cc x) vj _ _ HRP.out (HG.out.put (by omega) HXM.out) hB0r (by have:=hsP.size;omega) HX4.out (by
      have h1:=HBIG.out
      rw[hM1.out] at h1
      have h2:=HFT.out
      rw[HFS.out] at h2
      simp only[List.length_append,List.length_cons] at h1 h2 ⊢
      omega)).mono ?_
     rintro _ w6 ⟨rfl,v6,hrf6,hst6,hv6⟩
     have hsz6:=hsP.size
     have HRF6:Hid (RF w6 L bt bo br gb cg cells a n c sum n' (g.set cc x) v6 (T++⟨kCell,cc,0,0,(zh g).length⟩ :: ((zh g).take (j+1)).flatMap fun x=>ji ls sum f (g.set cc x))):=by
      unfold Hid
      rw[HFS.out]
      simpa using hrf6
     have HS6:Hid (Stays (MF bo gb (Value.slice av T.length cv)) w w6):=(hst.out.trans (hsP.mono (T:=MF bo gb (Value.slice av T.length cv)) (fun k e => .inr (.inl e))) (fun _ e => .inl e)).trans hst6 (fun k e=>by
      rcases e with e|e|e
      ·exact .inl (.inl e)
      ·exact .inl (.inr (.inl e))
      ·exact (hvj.out k e).imp (fun h => .inr (.inr h)) id)
     have HV6:Hid (∀k,v6.ownBlock=some k→(Value.slice av T.length cv).ownBlock=some k∨w.heap.size≤k):=fun k e=>(hv6 k e).elim (fun h=>hvj.out k h) (fun h => .inr (by omega))
     have HU6:Hid (w6.ownsRow w.heap.size 3 1 (.slice (some ⟨bu,ou,none⟩) (zh g).length cu) (zh g).length ((zh g).map (Value.int .i64))):=by
      refine zw hu.out (fun i e hl=>?_)
      have h1:=zL hu.out e
      have h2:=(HRF.out.og.lt gb rfl).2
      have h3:=zy HRF.out.qo
      refine (hst6.block i (by omega) (fun e2=>?_)).trans (hsP.block i hl (by omega))
      rcases e2 with e2|e2|e2
      ·omega
      ·omega
      ·exact hau.out i e e2
     have HA6:Hid (∀k,(Value.slice (some ⟨bu,ou,none⟩) (zh g).length cu).ownBlock=some k→v6.ownBlock≠some k):=fun k e e2=>(hv6 k e2).elim (fun h=>hau.out k e h) (fun h=>by have:=(hu.out.lt k e).2;omega)
     clear hrf6 hst6 hv6 hsP
     go_wp2_with fail
     go_roundw
     case rel=>exact ⟨j+1,v6,g.set cc x,by omega,by go_num,HRF6.out,fun y=>by rw[List.set_set],HS6.out,HV6.out,HU6.out,HA6.out⟩
     case measure=>simp[intOf];omega
    ·have e:j=(zh g).length:=by omega
     subst e
     have HRP:=za (hrf.out.put cc 0)
     rw[hset.out 0,set_back HO3.out,List.take_length,← hM1.out] at HRP
     go_wp2_with fail
     go_end0
     exact ⟨rfl,vj,HRP.out,hst.out.trans (Stays.setCell (S:=MF bo gb (Value.slice av T.length cv)) wr (p:=⟨gb,cc,none⟩) (.inr (.inl rfl)) _) (fun _ e => .inl e),hvj.out⟩
end
end Go.Proofs.YtaadpihbjhachaaGreat
