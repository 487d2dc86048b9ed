/- Texts Q8 to Q8 of this proof, in one file. -/
import Derived.Test.YtcblpobiefmjmaaGreatW11
import Derived.Test.YtcblpobiefmjmaaGreatW20
import Derived.Test.YtcblpobiefmjmaaGreatW28
import Derived.Test.YtcblpobiefmjmaaGreatW42
import Derived.Test.YtcblpobiefmjmaaGreatW49
import Derived.Test.YtcblpobiefmjmaaGreatW50
namespace Go.Proofs.YtcblpobiefmjmaaGreat
set_option maxRecDepth 100000
set_option maxHeartbeats 16000000
section
open Go Go.RowKit
attribute [local go_sem] over_cell
attribute [local go_sem] Oper.semAt_some
attribute [local go_sem] hold_c0
attribute [local go_sem] hold_c1
attribute [local go_sem] hold_c2
theorem p3 {w:World} {b:Nat} {v0 v1 v2:Value} {T:TypeId} (h:w.heap[b]?=some (.cells #[v0,v1,v2] T (0,0))):w.cell? ⟨b,0,none⟩=some v0∧w.cell? ⟨b,1,none⟩=some v1∧w.cell? ⟨b,2,none⟩=some v2∧b<w.heap.size:=⟨q_cell h 0,q_cell h 1,q_cell h 2,q_lt h⟩
theorem p4 {w:World} {b:Nat} {v0 v1 v2 v3:Value} {T:TypeId} (h:w.heap[b]?=some (.cells #[v0,v1,v2,v3] T (0,0))):w.cell? ⟨b,0,none⟩=some v0∧w.cell? ⟨b,1,none⟩=some v1∧w.cell? ⟨b,2,none⟩=some v2∧w.cell? ⟨b,3,none⟩=some v3∧b<w.heap.size:=⟨q_cell h 0,q_cell h 1,q_cell h 2,q_cell h 3,q_lt h⟩
structure PtI (ls:List (List Int)) (sum:Int) (g XB:List Int) (L0:Nat) (WT:World) (k:Nat) (v:Value) (wr:World) (ax:Option Addr) (nx cx:Nat) (P:List Int) (t:Int) (d:Bool) (pre:List (Value × List Int)):Prop where
 q:wr.heap[L0]?=some (.cells #[.slice ax nx cx,.int .i64 t,.bool d] 68 (0,0))
 path:PathC wr L0 WT.heap.size v ax nx cx P
 st1:(partS ls sum g (totTo XB k)).1=(P,t,d)
 rows:RowsI wr noB WT.heap.size v pre
 all:pre.map Prod.snd=(partS ls sum g (totTo XB k)).2
 st:Stays (fun b=>b=L0) WT wr
theorem PtI.below {ls:List (List Int)} {sum:Int} {g XB:List Int} {L0:Nat} {WT:World} {k:Nat} {v:Value} {wr w':World} {ax:Option Addr} {nx cx:Nat} {P:List Int} {t:Int} {d:Bool} {pre:List (Value × List Int)} (h:PtI ls sum g XB L0 WT k v wr ax nx cx P t d pre) (hb:Below wr.heap.size wr w'):PtI ls sum g XB L0 WT k v w' ax nx cx P t d pre :=
 ⟨keepq hb h.q,h.path.below hb,h.st1,h.rows.below hb,h.all,h.st.trans (Below.stays hb _) (fun _ e => .inl e)⟩
theorem sameSt_self (P:List Int) (t:Int) (d:Bool):sameSt P P t t d d=true:=by simp[sameSt,sameB]
theorem fparts_c (a:Option Addr) (n c:Nat) (ls:List (List Int)) (cells sum:Int) (a':Option Addr) (n' c':Nat) (g:List Int) (ab:Option Addr) (nb cb:Nat) (XB:List Int) (w:World) (h:RC w a n ls) (hcap:n≤c) (h':IC w a' n' g) (hcap':n'≤c') (hX:BC w ab nb XB) :
  Calls Tryz.prog 10 #[.agg #[.int .i64 cells,.slice a n c,.int .i64 sum,.slice a' n' c'],.slice ab nb cb] w fun e w'=>e = .returned (.bool true)∧Below w.heap.size w w':=by
 have HA:=Lib.hid awake_c
 have HFW:=Lib.hid (fun w1 (hb:Below w.heap.size w w1)=>few6_c a n c ls cells sum a' n' c' g 16 5 w1 (h.mono hb) hcap (h'.mono hb) hcap')
 have HBG:=Lib.hid (fun w1 (hb:Below w.heap.size w w1)=>begin_c a n c ls cells sum a' n' c' g w1 (h.mono hb) hcap (h'.mono hb) hcap')
 have HRE:=Lib.hid (fun w1 (hb:Below w.heap.size w w1) ap np cp P t d (hP:IC w1 ap np P) (hcp:np≤cp)=>frest_c a n c ls cells sum a' n' c' g ap np cp P t d w1 (h.mono hb) hcap (h'.mono hb) hcap' hP hcp)
 have HRS:=Lib.hid (fun (G:GoodTask cells ls sum g) w1 (hb:Below w.heap.size w w1) ap np cp P t d (hP:IC w1 ap np P) (hcp:np≤cp)=>rcstate_c G a n c a' n' c' ap np cp P t d w1 (h.mono hb) (h'.mono hb) hP hcp)
 have HCN:=Lib.hid (fun (hte:taskErr cells ls sum g=0) w1 (hb:Below w.heap.size w w1) ap np cp P t d b (hP:IC w1 ap np P) (hcp:np≤cp) (hse:stateErr ls sum g P t d=0) (hb1:b≤1000000) (hb2:t+(b:Nat)≤999999999)=>contOk_c a n c ls cells sum a' n' c' g ap np cp P t d b w1 (h.mono hb) hcap (h'.mono hb) hcap' hP hcp hte hse hb1 hb2)
 have HFG:Hid (few6B 16 5 cells sum ls g=true→GoodTask cells ls sum g∧(openL g).length≤5∧taskErr cells ls sum g=0):=fun e=>by
  have h1:=few_good e
  exact ⟨h1.1,by have:=h1.2;omega,taskErr_good h1.1 (few_sys e)⟩
 have HXB:=Lib.hid hX
 have hnbs:=hX.1.2
 have hgs:g.length≤17592186044416:=by rw[h'.len];exact h'.small
 clear h h' hX
 generalize few6B 16 5 cells sum ls g=fb at HFW HFG
 go_enter Tryz.func10,Tryz.ntmps10
 go_upto_region 2 with fail
 have fsz:((w.alloc (.cells #[.int .i64 cells,.slice a n c,.int .i64 sum,.slice a' n' c'] 27)).alloc (.cells #[.int .i64 cells,.slice a n c,.int .i64 sum,.slice a' n' c'] 28)).heap.size=w.heap.size+2:=by simp only[World.size_alloc] <;> omega
 have fB:Below w.heap.size w ((w.alloc (.cells #[.int .i64 cells,.slice a n c,.int .i64 sum,.slice a' n' c'] 27)).alloc (.cells #[.int .i64 cells,.slice a n c,.int .i64 sum,.slice a' n' c'] 28)):=((Below.refl _ _).alloc (Nat.le_refl _) _).alloc (by simp only[World.size_alloc];omega) _
 have fq0:((w.alloc (.cells #[.int .i64 cells,.slice a n c,.int .i64 sum,.slice a' n' c'] 27)).alloc (.cells #[.int .i64 cells,.slice a n c,.int .i64 sum,.slice a' n' c'] 28)).heap[w.heap.size]?=some (.cells #[.int .i64 cells,.slice a n c,.int .i64 sum,.slice a' n' c'] 27 (0,0)):=by have h:=World.alloc_heap_new w (.cells #[.int .i64 cells,.slice a n c,.int .i64 sum,.slice a' n' c'] 27);exact (Below.heap_alloc _ _ _ (by simp only[World.size_alloc];omega)).trans (h)
 have fq1:((w.alloc (.cells #[.int .i64 cells,.slice a n c,.int .i64 sum,.slice a' n' c'] 27)).alloc (.cells #[.int .i64 cells,.slice a n c,.int .i64 sum,.slice a' n' c'] 28)).heap[w.heap.size+1]?=some (.cells #[.int .i64 cells,.slice a n c,.int .i64 sum,.slice a' n' c'] 28 (0,0)):=by have h:=World.alloc_heap_new (w.alloc (.cells #[.int .i64 cells,.slice a n c,.int .i64 sum,.slice a' n' c'] 27)) (.cells #[.int .i64 cells,.slice a n c,.int .i64 sum,.slice a' n' c'] 28);simp only[World.size_alloc] at h;exact h
 generalize ((w.alloc (.cells #[.int .i64 cells,.slice a n c,.int .i64 sum,.slice a' n' c'] 27)).alloc (.cells #[.int .i64 cells,.slice a n c,.int .i64 sum,.slice a' n' c'] 28))=W0 at fsz fB fq0 fq1 ⊢
 have HY:=Lib.hid (fun W (hb:Below W0.heap.size W0 W)=>p4 (keepq hb fq0))
 have HX:=Lib.hid (fun W (hb:Below W0.heap.size W0 W)=>p4 (keepq hb fq1))
 have hcur:Below W0.heap.size W0 W0:=Below.refl _ _
 obtain ⟨y0,y1,y2,y3,yl⟩:=HY.out _ hcur
 obtain ⟨x0,x1,x2,x3,xl⟩:=HX.out _ hcur
 clear fq0 fq1 fsz
 cases fb with
 | false =>
  go_wp2_with (first|(go_at_call 32;refine (HFW.out _ (keep_trans fB hcur)).mono ?_;rintro _ w1 ⟨rfl,hb1⟩;replace hcur:=keep_trans hcur hb1;clear y0 y1 y2 y3 yl;obtain ⟨y0,y1,y2,y3,yl⟩:=HY.out _ hcur;clear x0 x1 x2 x3 xl;obtain ⟨x0,x1,x2,x3,xl⟩:=HX.out _ hcur)|(go_at_call 17;refine (HA.out _).mono ?_;rintro _ w1 ⟨rfl,hb1⟩;replace hcur:=keep_trans hcur hb1))
  go_ret
  exact ⟨rfl,keep_trans fB hcur⟩
 | true =>
  by_cases hnb:(6:Int)<(nb:Int)
  ·go_wp2_with (first|(go_at_call 32;refine (HFW.out _ (keep_trans fB hcur)).mono ?_;rintro _ w1 ⟨rfl,hb1⟩;replace hcur:=keep_trans hcur hb1;clear y0 y1 y2 y3 yl;obtain ⟨y0,y1,y2,y3,yl⟩:=HY.out _ hcur;clear x0 x1 x2 x3 xl;obtain ⟨x0,x1,x2,x3,xl⟩:=HX.out _ hcur)|(go_at_call 17;refine (HA.out _).mono ?_;rintro _ w1 ⟨rfl,hb1⟩;replace hcur:=keep_trans hcur hb1))
   go_ret
   exact ⟨rfl,keep_trans fB hcur⟩
  obtain ⟨G,h5,hte⟩:=HFG.out rfl
  have HCN:=Lib.hid (HCN.out hte)
  have HRS:=Lib.hid (HRS.out G)
  rw[hte] at HBG
  have HRP:=Lib.hid (fun T (hT:T≤10000) P t d (hs:(partS ls sum g T).1=(P,t,d))=>rest_part G hte h5 hT hs)
  have HPA:=Lib.hid (fun T b=>part_add G T b)
  have HPO:=Lib.hid (fun T (hT:T≤10000)=>(part_ok G T hT).1)
  have HPT:=Lib.hid (fun b s (hs:SOk ls sum g s)=>part_tried G b hs)
  have hnb6:nb≤6:=by omega
  have HS5:=Lib.hid (sols_count5 G h5)
  obtain ⟨i2,hi,hz0,hz1,hz2⟩:=info_parts infoRow
  clear HFG G h5 hte
  go_wp2_with (first|(go_at_call 32;refine (HFW.out _ (keep_trans fB hcur)).mono ?_;rintro _ w1 ⟨rfl,hb1⟩;replace hcur:=keep_trans hcur hb1;clear y0 y1 y2 y3 yl;obtain ⟨y0,y1,y2,y3,yl⟩:=HY.out _ hcur;clear x0 x1 x2 x3 xl;obtain ⟨x0,x1,x2,x3,xl⟩:=HX.out _ hcur))
  refine (HBG.out _ (keep_trans fB hcur)).mono ?_
  rintro _ w1 ⟨rfl,hb1⟩
  replace hcur:=keep_trans hcur hb1
  clear y0 y1 y2 y3 yl
  obtain ⟨y0,y1,y2,y3,yl⟩:=HY.out _ hcur
  clear x0 x1 x2 x3 xl
  obtain ⟨x0,x1,x2,x3,xl⟩:=HX.out _ hcur
  go_wp2_with fail
  have psz:(w1.alloc (.cells #[.slice none 0 0,.int .i64 0,.bool false] 68)).heap.size=w1.heap.size+1:=by simp only[World.size_alloc]
  have pB:Below w1.heap.size w1 (w1.alloc (.cells #[.slice none 0 0,.int .i64 0,.bool false] 68)):=(Below.refl _ _).alloc (Nat.le_refl _) _
  have pq0:(w1.alloc (.cells #[.slice none 0 0,.int .i64 0,.bool false] 68)).heap[w1.heap.size]?=some (.cells #[.slice none 0 0,.int .i64 0,.bool false] 68 (0,0)):=by have h:=World.alloc_heap_new w1 (.cells #[.slice none 0 0,.int .i64 0,.bool false] 68);exact h
  generalize (w1.alloc (.cells #[.slice none 0 0,.int .i64 0,.bool false] 68))=WA at psz pB pq0 ⊢
  replace hcur:=keep_trans hcur pB
  clear y0 y1 y2 y3 yl
  obtain ⟨y0,y1,y2,y3,yl⟩:=HY.out _ hcur
  clear x0 x1 x2 x3 xl
  obtain ⟨x0,x1,x2,x3,xl⟩:=HX.out _ hcur
  have HSA:=Lib.hid pq0
  have hs0:(partS ls sum g 0).1=([],0,false):=by unfold partS;rw[contR_zero]
  have hs02:(partS ls sum g 0).2=[]:=by unfold partS;rw[contR_zero]
  obtain ⟨e1,e2,e3,e4,_,_,_⟩:=HRP.out 0 (by decide) [] 0 false hs0
  rw[hs02,List.nil_append] at e3
  have HSE0:=Lib.hid e4
  have HR0:=Lib.hid (HRE.out _ (keep_trans fB hcur) none 0 0 [] 0 false (IC.nil _) (Nat.le_refl _))
  rw[e1,e2,e3] at HR0
  obtain ⟨a0,a1,a2,al⟩:=p3 pq0
  obtain ⟨bA,hbA⟩:∃b,w1.heap.size=b:=⟨_,rfl⟩
  rw[hbA] at HSA a0 a1 a2 al ⊢
  clear psz pq0 pB hb1 hbA e1 e2 e3 e4
  refine HR0.out.mono ?_
  rintro _ w2 ⟨aw,nw,cw,rfl,hRW,hcw,hb2⟩
  clear HR0
  replace hcur:=keep_trans hcur hb2
  have HRW:=Lib.hid hRW
  have HSA2:=Lib.hid (keepq hb2 HSA.out)
  clear a0 a1 a2 al hRW
  obtain ⟨a0,a1,a2,al⟩:=p3 HSA2.out
  clear y0 y1 y2 y3 yl
  obtain ⟨y0,y1,y2,y3,yl⟩:=HY.out _ hcur
  clear x0 x1 x2 x3 xl
  obtain ⟨x0,x1,x2,x3,xl⟩:=HX.out _ hcur
  go_wp2_with fail
  refine wp_region_S (fun w'=>∃u,w'=over (w2) u) [3] [(0,0),(1,1),(1,2),(2,3)] (by kernel_rfl) (by kernel_rfl) (by exact ⟨_,below_over (by repeat (first|assumption|exact Below.refl _ _|refine keep_drew ?_|refine keep_alloc ?_ _|refine keep_trans ?_ (by assumption)))⟩) ?_
  dsimp only[pickOps,nthOp]
  repeat (first|(refine wpS_skip rfl (fun K hK=>?_);go_big_quiet_op;refine hK _ ?_;clear hK K)|(refine wpS_quiet rfl rfl (fun K hK=>?_);go_big_quiet_op;refine hK _ ?_;clear hK K)|(refine wpS_loud ?_;go_wp2;refine ⟨?_,?_⟩;focus (exact ⟨_,below_over (by repeat (first|assumption|exact Below.refl _ _|refine keep_drew ?_|refine keep_alloc ?_ _|refine keep_trans ?_ (by assumption)))⟩)))
  refine wpS_late _ _ _ rfl ?_
  dsimp only[List.map]
  go_wp2
  refine NoPanic.normal ?_
  go_wp2_with fail
  have pB:Below w2.heap.size w2 (w2.alloc (.cells #[.slice none 0 0,.int .i64 0,.bool false] 68)).drew:=((Below.refl _ _).alloc (Nat.le_refl _) _).drew
  have pq:(w2.alloc (.cells #[.slice none 0 0,.int .i64 0,.bool false] 68)).drew.heap[w2.heap.size]?=some (.cells #[.slice none 0 0,.int .i64 0,.bool false] 68 (0,0)):=World.alloc_heap_new w2 _
  have psz:(w2.alloc (.cells #[.slice none 0 0,.int .i64 0,.bool false] 68)).drew.heap.size=w2.heap.size+1:=by show (w2.alloc _).heap.size=_;simp only[World.size_alloc]
  generalize (w2.alloc (.cells #[.slice none 0 0,.int .i64 0,.bool false] 68)).drew=WT at pB pq psz ⊢
  have hcT:Below W0.heap.size W0 WT:=keep_trans hcur pB
  have HRWB:Hid (∀W,Stays (fun b=>b=w2.heap.size) WT W→RC W aw nw (solsL ls sum g [])):=fun W hs=>HRW.out.mono (pB.trans (hs.below pB.size (fun k e=>by omega)))
  have HSAB:Hid (∀W,Stays (fun b=>b=w2.heap.size) WT W→W.heap[bA]?=some (.cells #[.slice none 0 0,.int .i64 0,.bool false] 68 (0,0))):=fun W hs=>hs.q (keepq pB HSA2.out) (fun e=>by have:=q_lt HSA2.out;omega)
  have h02:W0.heap.size≤w2.heap.size:=hcur.size
  have halt:=q_lt HSA2.out
  obtain ⟨bT,hbT⟩:∃b,w2.heap.size=b:=⟨_,rfl⟩
  rw[hbT] at pq psz h02 halt HRWB HSAB ⊢
  clear hbT pB hcur a0 a1 a2 al y0 y1 y2 y3 yl x0 x1 x2 x3 xl HRW HSA HSA2 hb2 HFW
  have HIP:=Lib.hid pq
  clear pq
  go_loopw [10,12,52] (fun tv v iv wr=>∃(k:Nat) (av:Option Addr) (cv:Nat) (ax:Option Addr) (nx cx:Nat) (P:List Int) (t:Int) (d:Bool) (pre:List (Value × List Int)),k≤nb∧iv = .int .i64 k∧tv = .int .i64 (totTo XB k:Nat)∧v = .slice av pre.length cv∧PtI ls sum g XB bT WT k (.slice av pre.length cv) wr ax nx cx P t d pre) (fun _ _ iv _=>nb - (intOf iv).toNat)
  case atStart=>exact ⟨0,none,0,none,0,0,[],0,false,[],by omega,rfl,rfl,rfl,⟨HIP.out,PathC.nil _ _ _ _,hs0,RowsI.nil _ _ _,hs02.symm,Stays.refl _ _⟩⟩
  case round =>
   obtain ⟨k,av,cv,ax,nx,cx,P,t,d,pre,hk,rfl,rfl,rfl,hI⟩:=hrel
   have hcr:Below W0.heap.size W0 wr:=hcT.trans (hI.st.below hcT.size (fun k e=>by omega))
   have hBr:=keep_trans fB hcr
   have hszr:=hI.st.size
   have HI:=Lib.hid hI
   have hTk:totTo XB k≤200*k:=totTo_le XB k
   obtain ⟨_,_,e3,hse,ht0,ht1,hok⟩:=HRP.out (totTo XB k) (by omega) P t d hI.st1
   obtain ⟨y0,y1,y2,y3,yl⟩:=HY.out _ hcr
   obtain ⟨x0,x1,x2,x3,xl⟩:=HX.out _ hcr
   obtain ⟨z0,z1,z2,zl⟩:=p3 hI.q
   by_cases hlt:k<nb
   ·have hki:(k:Int)<(nb:Int):=by omega
    obtain ⟨⟨hx0,hx1⟩,b8,o8,rfl,l8,c8⟩:=(HXB.out.mono hBr).2 k hlt
    have HTS:Hid (totTo XB (k+1)=totTo XB k+(XB[k]?.getD 0 % 201).toNat):=rfl
    generalize XB[k]?.getD 0=x at hx0 hx1 c8 HTS
    obtain ⟨y,hy⟩:∃y:Nat,x % 201=(y:Int):=⟨(x % 201).toNat,by omega⟩
    have hy2:y≤200:=by omega
    have hTS:totTo XB (k+1)=totTo XB k+y:=by rw[HTS.out,hy];rfl
    have hTk1:totTo XB (k+1)≤1200:=by have:=totTo_le XB (k+1);omega
    have hpa:=HPA.out (totTo XB k) y
    rw[hI.st1,← hTS] at hpa
    have hsok:=HPO.out (totTo XB k) (by omega)
    rw[hI.st1] at hsok
    have hpt:=HPT.out y (P,t,d) hsok
    have hcont:=HCN.out wr hBr ax nx cx P t d y hI.path.1.1 hI.path.1.2 hse (by omega) (by omega)
    obtain ⟨⟨⟨P1,t1,d1⟩,M1⟩,hC1⟩:∃C1,contR ls sum g y (P,t,d)=C1:=⟨_,rfl⟩
    rw[hC1] at hpa hpt hcont
    have hst1':(partS ls sum g (totTo XB (k+1))).1=(P1,t1,d1):=by rw[hpa]
    have hall1:(pre.map Prod.snd)++M1=(partS ls sum g (totTo XB (k+1))).2:=by rw[hpa,hI.all]
    obtain ⟨ex,el,e4,hse1,_,_,_⟩:=HRP.out (totTo XB (k+1)) (by omega) P1 t1 d1 hst1'
    rw[← hall1] at e4
    have hT1:¬t+(y:Int)<t1:=by have:=hpt.1;simp only at this;omega
    have hT2:d1=false→t1=t+(y:Int):=hpt.2
    have HCO:=Lib.hid hcont
    have HST1:=Lib.hid hst1'
    have HAL1:=Lib.hid hall1
    have HEX:=Lib.hid (And.intro ex (And.intro el e4))
    have HSE1:=Lib.hid hse1
    have HT2:=Lib.hid hT2
    have HTS1:=Lib.hid hTS
    have hTb:t≤1200∧0≤t:=by omega
    clear hcont hst1' hall1 ex el e4 hse1 hT2 hTS hpa hpt hsok hC1 hI e3 hse hok HTS
    go_wp2_with fail
    refine HCO.out.mono ?_
    rintro _ w2 ⟨ar,nr,cr,af,nf,cf,rfl,hIS,hcr1,hfp,hfr,hb2⟩
    obtain ⟨preM,hrowM,hallM,hlenM⟩:=hfr
    have hcr2:Below W0.heap.size W0 w2:=keep_trans hcr hb2
    clear x0 x1 x2 x3 xl y0 y1 y2 y3 yl z0 z1 z2 zl HCO
    obtain ⟨x0,x1,x2,x3,xl⟩:=HX.out _ hcr2
    have HMR:=Lib.hid (show RowsI w2 noB wr.heap.size (.slice af nf cf) preM from hrowM)
    have HMA:=Lib.hid hallM
    have HIS:=Lib.hid hIS
    have HFP:=Lib.hid hfp
    clear hrowM hallM hIS hfp
    go_wp2_with fail
    have psz:(w2.alloc (.cells #[.slice ar nr cr,.int .i64 t1,.bool d1] 68)).heap.size=w2.heap.size+1:=by simp only[World.size_alloc]
    have pB:Below w2.heap.size w2 (w2.alloc (.cells #[.slice ar nr cr,.int .i64 t1,.bool d1] 68)):=(Below.refl _ _).alloc (Nat.le_refl _) _
    have pq0:(w2.alloc (.cells #[.slice ar nr cr,.int .i64 t1,.bool d1] 68)).heap[w2.heap.size]?=some (.cells #[.slice ar nr cr,.int .i64 t1,.bool d1] 68 (0,0)):=by have h:=World.alloc_heap_new w2 (.cells #[.slice ar nr cr,.int .i64 t1,.bool d1] 68);exact h
    generalize (w2.alloc (.cells #[.slice ar nr cr,.int .i64 t1,.bool d1] 68))=W3 at psz pB pq0 ⊢
    have hc3:Below wr.heap.size wr W3:=keep_trans hb2 pB
    have hcr3:Below W0.heap.size W0 W3:=keep_trans hcr2 pB
    have HQT:=Lib.hid (keepq hc3 HI.out.q)
    have hIS3:=HIS.out.mono pB
    have hs2:=hb2.size
    obtain ⟨b3,hb3⟩:∃b,w2.heap.size=b:=⟨_,rfl⟩
    have HR3:=Lib.hid (HRS.out W3 (keep_trans fB hcr3) ar nr cr P1 t1 d1 hIS3 hcr1)
    rw[HSE1.out] at HR3
    have HM3:=Lib.hid (HMR.out.below pB)
    have HIS3:=Lib.hid hIS3
    rw[hb3] at pq0 hs2 ⊢
    have HN3:=Lib.hid pq0
    clear psz pB pq0 hb3 hIS3 HIS HMR
    refine HR3.out.mono ?_
    rintro _ w4 ⟨rfl,hb4⟩
    have hc4:Below wr.heap.size wr w4:=keep_trans hc3 hb4
    have hcr4:Below W0.heap.size W0 w4:=keep_trans hcr3 hb4
    have HN4:=Lib.hid (keepq hb4 HN3.out)
    have HQ4:=Lib.hid (keepq hb4 HQT.out)
    have HM4:=Lib.hid (HM3.out.below hb4)
    have HIS4:=Lib.hid (HIS3.out.mono hb4)
    clear x0 x1 x2 x3 xl HR3 HM3 HIS3 HN3 HQT
    obtain ⟨z0,z1,z2,zl⟩:=p3 HQ4.out
    obtain ⟨c0,c1,c2,cl⟩:=p3 HN4.out
    have HVL:Hid (∀j,(Value.slice av pre.length cv).ownBlock=some j→WT.heap.size≤j∧j<wr.heap.size):=fun j e=>HI.out.rows.1.lt j e
    have hsrc:=owns_src HM4.out.1
    have hnf:nf=preM.length:=hsrc.2
    subst hnf
    have HSRC:=Lib.hid hsrc.1
    have hlen:pre.length+preM.length≤120:=by
     have h1:=congrArg List.length HEX.out.2.2
     rw[List.length_append,List.length_append,List.length_map,← HMA.out,List.length_map] at h1
     have:=HS5.out
     omega
    clear hsrc
    have hs4:=hc4.size
    cases d1 with
    | true =>
     have hr4:=HI.out.rows.below hc4
     have HR4:=Lib.hid hr4
     have hone:=rows_one HM4.out
     have hbT:bT<WT.heap.size:=by omega
     have hb3w:WT.heap.size≤b3:=by omega
     go_wp2_with fail
     refine wp_region_T (fun w'=>∃u,w'=hold (.cells #[.slice ar nr cr,.int .i64 t1,.bool true] 68 (0,0)) (b3) u) [1,2] [4,5] [(0,0),(1,3),(2,4),(2,5)] (by kernel_rfl) (by kernel_rfl) (by exact ⟨_,hold_of (by first|exact NX7|exact HN4.out)⟩) ?_
     dsimp only[pickF,nthOp]
     repeat (first|(refine wpF_skip rfl (fun K hK=>?_);go_big_quiet_op;refine hK _ ?_;clear hK K)|(refine wpF_quiet rfl rfl (fun K hK=>?_);go_big_quiet_op;refine hK _ ?_;clear hK K))
     refine wpF_end ?_
     dsimp only[pickOps,nthOp]
     repeat (first|(refine wpS_skip rfl (fun K hK=>?_);go_big_quiet_op;refine hK _ ?_;clear hK K)|(refine wpS_quiet rfl rfl (fun K hK=>?_);go_big_quiet_op;refine hK _ ?_;clear hK K)|(refine wpS_loud ?_;go_wp2_with ((at_builtin;refine wpList_append_any _ rfl _ _ 22 rfl WT.heap.size 25 i2 (.slice none 0 0) 24 Tryz.underlying22 hi hz0 hz1 hz2 rfl (.slice av pre.length cv) _ _ rfl (owns_drew HR4.out.1) (by show WT.heap.size≤w4.heap.size;omega) _ _ _ (preM.map Prod.fst) rfl (by simp) HSRC.out hone (by unfold maxLen;omega) (by omega) ?_;intro v7 w7 hown7 hst7 hk7;have hst7':Stays (fun j=>(Value.slice av pre.length cv).ownBlock=some j) w4 w7:=(Below.stays (Below.refl _ w4).drew _).trans hst7 (fun _ e => .inl e);have NX7:=hst7'.q HN4.out (fun e=>by have:=HVL.out _ e;omega);have QT7:=hst7'.q HQ4.out (fun e=>by have:=HVL.out _ e;omega);clear z0 z1 z2 zl c0 c1 c2 cl;obtain ⟨z0,z1,z2,zl⟩:=p3 QT7;have zf0:=q_free QT7 0;have zf1:=q_free QT7 1;have zf2:=q_free QT7 2;obtain ⟨a7,c7,rfl⟩:=owns_shape hown7));refine ⟨?_,?_⟩;focus (exact ⟨_,hold_of (by first|exact NX7|exact HN4.out)⟩)))
     refine wpS_late _ _ _ rfl ?_
     dsimp only[List.map]
     go_wp2_with ((at_builtin;refine wpList_append_any _ rfl _ _ 22 rfl WT.heap.size 25 i2 (.slice none 0 0) 24 Tryz.underlying22 hi hz0 hz1 hz2 rfl (.slice av pre.length cv) _ _ rfl (owns_drew HR4.out.1) (by show WT.heap.size≤w4.heap.size;omega) _ _ _ (preM.map Prod.fst) rfl (by simp) HSRC.out hone (by unfold maxLen;omega) (by omega) ?_;intro v7 w7 hown7 hst7 hk7;have hst7':Stays (fun j=>(Value.slice av pre.length cv).ownBlock=some j) w4 w7:=(Below.stays (Below.refl _ w4).drew _).trans hst7 (fun _ e => .inl e);have NX7:=hst7'.q HN4.out (fun e=>by have:=HVL.out _ e;omega);have QT7:=hst7'.q HQ4.out (fun e=>by have:=HVL.out _ e;omega);clear z0 z1 z2 zl c0 c1 c2 cl;obtain ⟨z0,z1,z2,zl⟩:=p3 QT7;have zf0:=q_free QT7 0;have zf1:=q_free QT7 1;have zf2:=q_free QT7 2;obtain ⟨a7,c7,rfl⟩:=owns_shape hown7))
     refine NoPanic.normal ?_
     have hs3:=store3 (x0 := .slice ar nr cr) (x1 := .int .i64 t1) (x2 := .bool true) QT7
     generalize (((w7.setCell ⟨bT,0,none⟩ (.slice ar nr cr)).setCell ⟨bT,1,none⟩ (.int .i64 t1)).setCell ⟨bT,2,none⟩ (.bool true))=W8 at hs3 ⊢
     have hmM:∀x,x∈preM→w4.ownsRow WT.heap.size 3 1 x.1 x.2.length (x.2.map (Value.int .i64))∧∀k,x.1.ownBlock=some k→(Value.slice av pre.length cv).ownBlock≠some k:=fun x hx=>⟨owns_base (HM4.out.2.2 x hx).1 hszr,fun j e e2=>by have h2:=((HM4.out.2.2 x hx).1.lt j e).1;have h3:=(HVL.out j e2).2;omega⟩
     have hrow8:=(HR4.out.more hmM hst7' hown7 hk7).at hs3.2 hbT
     have hpc4:PathC w4 bT WT.heap.size (.slice av pre.length cv) ar nr cr P1:=⟨⟨HIS4.out,hcr1⟩,fun b o h0 e=>⟨.inr (by have:=HFP.out b o h0 e;omega),fun e2=>by have h1:=HFP.out b o h0 e;have h2:=(HVL.out b e2).2;omega⟩⟩
     have hpc8:=(hpc4.grow hst7' hk7).at hs3.2 (Nat.le_refl _) hbT
     have hst8:Stays (fun b=>b=bT) WT W8:=((HI.out.st.trans (Below.stays hc4 (fun b=>b=bT)) (fun _ e => .inl e)).trans hst7' (fun i e => .inr (HVL.out i e).1)).trans hs3.2 (fun _ e => .inl e)
     have HPT8:Hid (PtI ls sum g XB bT WT (k+1) (.slice a7 (pre.length+preM.length) c7) W8 ar nr cr P1 t1 true (pre++preM)):=⟨hs3.1,hpc8,HST1.out,hrow8,by rw[List.map_append,HMA.out];exact HAL1.out,hst8⟩
     have hcr8:Below W0.heap.size W0 W8:=hcT.trans (hst8.below hcT.size (fun k e=>by omega))
     have HRE8:=Lib.hid (HRE.out W8 (keep_trans fB hcr8) ar nr cr P1 t1 true hpc8.1.1 hcr1)
     rw[HEX.out.1,HEX.out.2.1] at HRE8
     have HSAL:Hid ((pre++preM).map Prod.snd++restA ls sum g (P1,t1,true)=solsL ls sum g []):=by unfold Hid;rw[List.map_append,HMA.out];exact HEX.out.2.2
     have hsh:∀x,x∈pre++preM→x.2.length≤17592186044416:=fun x hx=>by
      have h1:x.2∈solsL ls sum g []:=by rw[← HSAL.out];exact List.mem_append_left _ (List.mem_map_of_mem hx)
      rw[sols_len h1]
      exact hgs
     have HSH:=Lib.hid hsh
     have hsl:=congrArg List.length HSAL.out
     rw[List.length_append,List.length_map,List.length_append] at hsl
     have hsl5:=HS5.out
     have HROW8:=Lib.hid hrow8
     have HST8:=Lib.hid hst8
     have HTB8:=Lib.hid (HRWB.out W8 hst8)
     have hT8:WT.heap.size≤W8.heap.size:=hst8.size
     obtain ⟨z0,z1,z2,zl⟩:=p3 hs3.1
     obtain ⟨y0,y1,y2,y3,yl⟩:=HY.out _ hcr8
     clear hs3 hmM hrow8 hpc4 hpc8 hst8 hst7 hst7' hown7 hk7 NX7 QT7 HR4 hr4 hone HSRC HM4 HN4 HQ4 HIS4 hsh HI HRE
     go_wp2_with fail
     refine HRE8.out.mono ?_
     rintro _ w9 ⟨aq,nq,cq,rfl,hRQ,hcq,hb9⟩
     have hrow9:=HROW8.out.below hb9
     obtain ⟨vs,hsrcQ,hrvQ,hvl⟩:=rc_vals hRQ
     have hrvA:=(hrow9.rv HSH.out).app hrvQ
     rw[HSAL.out] at hrvA
     have hrl:=hRQ.len
     have hownE:(w9.alloc (.cells #[] 25)).ownsRow w9.heap.size 25 1 (.slice (some ⟨w9.heap.size,0,none⟩) 0 0) 0 []:=⟨rfl,.inr ⟨w9.heap.size,0,#[],rfl,Nat.le_refl _,World.alloc_heap_new _ _,Nat.le_refl _,by unfold maxLen;omega,rfl,rfl⟩⟩
     have hBE:Below w9.heap.size w9 (w9.alloc (.cells #[] 25)):=(Below.refl _ _).alloc (Nat.le_refl _) _
     have hrow10:=hrow9.below hBE
     have hone:=rows_one hrow10
     have hone2:=hrvQ.one
     have hsrcP:=(owns_src hrow10.1).1
     have hTB9:=HTB8.out.mono hb9
     have hsm9:w9.heap.size≤(w9.alloc (.cells #[] 25)).heap.size:=hBE.size
     clear z0 z1 z2 zl y0 y1 y2 y3 yl HRE8 HROW8 hrow9 hRQ
     go_wp2_with (first|(at_builtin;refine wpList_open rfl ?_;refine wpList_append_any _ rfl _ _ 22 rfl w9.heap.size 25 i2 (.slice none 0 0) 24 Tryz.underlying22 hi hz0 hz1 hz2 rfl (.slice (some ⟨w9.heap.size,0,none⟩) 0 0) _ _ rfl hownE hsm9 a7 (pre.length+preM.length) c7 ((pre++preM).map Prod.fst) rfl (by simp) hsrcP hone (by unfold maxLen;omega) (by omega) ?_;intro v10 w10 hown10 hst10 hk10;obtain ⟨a10,c10,rfl⟩:=owns_shape hown10;rw[Nat.zero_add,List.nil_append] at hown10;have hB10:Below w9.heap.size w9 w10:=hBE.trans (hst10.below hsm9 (fun k e=>by cases e;exact Nat.le_refl _));have hsrcQ10:=hsrcQ.mono hB10)|(at_builtin;refine wpList_open rfl ?_;refine wpList_append_any _ rfl _ _ 22 rfl w9.heap.size 25 i2 (.slice none 0 0) 24 Tryz.underlying22 hi hz0 hz1 hz2 rfl (.slice a10 (pre.length+preM.length) c10) _ _ rfl hown10 hB10.size aq nq cq vs rfl hvl hsrcQ10 hone2 (by unfold maxLen;omega) (by omega) ?_;intro v11 w11 hown11 hst11 hk11;obtain ⟨a11,c11,rfl⟩:=owns_shape hown11))
     have hB11:Below w9.heap.size w9 w11:=hB10.trans (hst11.below hB10.size (fun k e=>owns_ge hown10 e))
     have hrc11:=(rc_of_rv hown11 (hrvA.mono hB11) (by omega)).1
     have HTC:=Lib.hid (table_c a11 aw _ nw c11 cw _ _ w11 hrc11 (hTB9.mono hB11))
     rw[sameT_self] at HTC
     clear hown10 hown11 hst10 hst11 hk10 hk11 hownE hrow10 hsrcP hsrcQ hsrcQ10 hone hone2 hrvA hrvQ hTB9 hrc11 hsl
     refine HTC.out.mono ?_
     rintro _ w12 ⟨rfl,hb12⟩
     have HP12:=Lib.hid (HPT8.out.below (keep_trans (keep_trans hb9 hB11) hb12))
     clear HTC HPT8 HTB8
     go_wp2_with fail
     go_roundw
     case rel=>exact ⟨k+1,a7,c7,ar,nr,cr,P1,t1,true,pre++preM,by omega,by go_num,by rw[HTS1.out];go_num,by rw[List.length_append],by rw[List.length_append];exact HP12.out⟩
     case measure=>simp[intOf];omega
    | false =>
     have ht1:=HT2.out rfl
     subst ht1
     have hr4:=HI.out.rows.below hc4
     have HR4:=Lib.hid hr4
     have hone:=rows_one HM4.out
     have hbT:bT<WT.heap.size:=by omega
     have hb3w:WT.heap.size≤b3:=by omega
     go_wp2_with fail
     refine wp_region_T (fun w'=>∃u,w'=hold (.cells #[.slice ar nr cr,.int .i64 (t+(y:Int)),.bool false] 68 (0,0)) (b3) u) [1,2] [4,5] [(0,0),(1,3),(2,4),(2,5)] (by kernel_rfl) (by kernel_rfl) (by exact ⟨_,hold_of (by first|exact NX7|exact HN4.out)⟩) ?_
     dsimp only[pickF,nthOp]
     repeat (first|(refine wpF_skip rfl (fun K hK=>?_);go_big_quiet_op;refine hK _ ?_;clear hK K)|(refine wpF_quiet rfl rfl (fun K hK=>?_);go_big_quiet_op;refine hK _ ?_;clear hK K))
     refine wpF_end ?_
     dsimp only[pickOps,nthOp]
     repeat (first|(refine wpS_skip rfl (fun K hK=>?_);go_big_quiet_op;refine hK _ ?_;clear hK K)|(refine wpS_quiet rfl rfl (fun K hK=>?_);go_big_quiet_op;refine hK _ ?_;clear hK K)|(refine wpS_loud ?_;go_wp2_with ((at_builtin;refine wpList_append_any _ rfl _ _ 22 rfl WT.heap.size 25 i2 (.slice none 0 0) 24 Tryz.underlying22 hi hz0 hz1 hz2 rfl (.slice av pre.length cv) _ _ rfl (owns_drew HR4.out.1) (by show WT.heap.size≤w4.heap.size;omega) _ _ _ (preM.map Prod.fst) rfl (by simp) HSRC.out hone (by unfold maxLen;omega) (by omega) ?_;intro v7 w7 hown7 hst7 hk7;have hst7':Stays (fun j=>(Value.slice av pre.length cv).ownBlock=some j) w4 w7:=(Below.stays (Below.refl _ w4).drew _).trans hst7 (fun _ e => .inl e);have NX7:=hst7'.q HN4.out (fun e=>by have:=HVL.out _ e;omega);have QT7:=hst7'.q HQ4.out (fun e=>by have:=HVL.out _ e;omega);clear z0 z1 z2 zl c0 c1 c2 cl;obtain ⟨z0,z1,z2,zl⟩:=p3 QT7;have zf0:=q_free QT7 0;have zf1:=q_free QT7 1;have zf2:=q_free QT7 2;obtain ⟨a7,c7,rfl⟩:=owns_shape hown7));refine ⟨?_,?_⟩;focus (exact ⟨_,hold_of (by first|exact NX7|exact HN4.out)⟩)))
     refine wpS_late _ _ _ rfl ?_
     dsimp only[List.map]
     go_wp2_with ((at_builtin;refine wpList_append_any _ rfl _ _ 22 rfl WT.heap.size 25 i2 (.slice none 0 0) 24 Tryz.underlying22 hi hz0 hz1 hz2 rfl (.slice av pre.length cv) _ _ rfl (owns_drew HR4.out.1) (by show WT.heap.size≤w4.heap.size;omega) _ _ _ (preM.map Prod.fst) rfl (by simp) HSRC.out hone (by unfold maxLen;omega) (by omega) ?_;intro v7 w7 hown7 hst7 hk7;have hst7':Stays (fun j=>(Value.slice av pre.length cv).ownBlock=some j) w4 w7:=(Below.stays (Below.refl _ w4).drew _).trans hst7 (fun _ e => .inl e);have NX7:=hst7'.q HN4.out (fun e=>by have:=HVL.out _ e;omega);have QT7:=hst7'.q HQ4.out (fun e=>by have:=HVL.out _ e;omega);clear z0 z1 z2 zl c0 c1 c2 cl;obtain ⟨z0,z1,z2,zl⟩:=p3 QT7;have zf0:=q_free QT7 0;have zf1:=q_free QT7 1;have zf2:=q_free QT7 2;obtain ⟨a7,c7,rfl⟩:=owns_shape hown7))
     refine NoPanic.normal ?_
     have hs3:=store3 (x0 := .slice ar nr cr) (x1 := .int .i64 (t+(y:Int))) (x2 := .bool false) QT7
     generalize (((w7.setCell ⟨bT,0,none⟩ (.slice ar nr cr)).setCell ⟨bT,1,none⟩ (.int .i64 (t+(y:Int)))).setCell ⟨bT,2,none⟩ (.bool false))=W8 at hs3 ⊢
     have hmM:∀x,x∈preM→w4.ownsRow WT.heap.size 3 1 x.1 x.2.length (x.2.map (Value.int .i64))∧∀k,x.1.ownBlock=some k→(Value.slice av pre.length cv).ownBlock≠some k:=fun x hx=>⟨owns_base (HM4.out.2.2 x hx).1 hszr,fun j e e2=>by have h2:=((HM4.out.2.2 x hx).1.lt j e).1;have h3:=(HVL.out j e2).2;omega⟩
     have hrow8:=(HR4.out.more hmM hst7' hown7 hk7).at hs3.2 hbT
     have hpc4:PathC w4 bT WT.heap.size (.slice av pre.length cv) ar nr cr P1:=⟨⟨HIS4.out,hcr1⟩,fun b o h0 e=>⟨.inr (by have:=HFP.out b o h0 e;omega),fun e2=>by have h1:=HFP.out b o h0 e;have h2:=(HVL.out b e2).2;omega⟩⟩
     have hpc8:=(hpc4.grow hst7' hk7).at hs3.2 (Nat.le_refl _) hbT
     have hst8:Stays (fun b=>b=bT) WT W8:=((HI.out.st.trans (Below.stays hc4 (fun b=>b=bT)) (fun _ e => .inl e)).trans hst7' (fun i e => .inr (HVL.out i e).1)).trans hs3.2 (fun _ e => .inl e)
     have HPT8:Hid (PtI ls sum g XB bT WT (k+1) (.slice a7 (pre.length+preM.length) c7) W8 ar nr cr P1 (t+(y:Int)) false (pre++preM)):=⟨hs3.1,hpc8,HST1.out,hrow8,by rw[List.map_append,HMA.out];exact HAL1.out,hst8⟩
     have hcr8:Below W0.heap.size W0 W8:=hcT.trans (hst8.below hcT.size (fun k e=>by omega))
     have HRE8:=Lib.hid (HRE.out W8 (keep_trans fB hcr8) ar nr cr P1 (t+(y:Int)) false hpc8.1.1 hcr1)
     rw[HEX.out.1,HEX.out.2.1] at HRE8
     have HSAL:Hid ((pre++preM).map Prod.snd++restA ls sum g (P1,(t+(y:Int)),false)=solsL ls sum g []):=by unfold Hid;rw[List.map_append,HMA.out];exact HEX.out.2.2
     have hsh:∀x,x∈pre++preM→x.2.length≤17592186044416:=fun x hx=>by
      have h1:x.2∈solsL ls sum g []:=by rw[← HSAL.out];exact List.mem_append_left _ (List.mem_map_of_mem hx)
      rw[sols_len h1]
      exact hgs
     have HSH:=Lib.hid hsh
     have hsl:=congrArg List.length HSAL.out
     rw[List.length_append,List.length_map,List.length_append] at hsl
     have hsl5:=HS5.out
     have HROW8:=Lib.hid hrow8
     have HST8:=Lib.hid hst8
     have HTB8:=Lib.hid (HRWB.out W8 hst8)
     have hT8:WT.heap.size≤W8.heap.size:=hst8.size
     obtain ⟨z0,z1,z2,zl⟩:=p3 hs3.1
     obtain ⟨y0,y1,y2,y3,yl⟩:=HY.out _ hcr8
     clear hs3 hmM hrow8 hpc4 hpc8 hst8 hst7 hst7' hown7 hk7 NX7 QT7 HR4 hr4 hone HSRC HM4 HN4 HQ4 HIS4 hsh HI HRE
     go_wp2_with fail
     refine HRE8.out.mono ?_
     rintro _ w9 ⟨aq,nq,cq,rfl,hRQ,hcq,hb9⟩
     have hrow9:=HROW8.out.below hb9
     obtain ⟨vs,hsrcQ,hrvQ,hvl⟩:=rc_vals hRQ
     have hrvA:=(hrow9.rv HSH.out).app hrvQ
     rw[HSAL.out] at hrvA
     have hrl:=hRQ.len
     have hownE:(w9.alloc (.cells #[] 25)).ownsRow w9.heap.size 25 1 (.slice (some ⟨w9.heap.size,0,none⟩) 0 0) 0 []:=⟨rfl,.inr ⟨w9.heap.size,0,#[],rfl,Nat.le_refl _,World.alloc_heap_new _ _,Nat.le_refl _,by unfold maxLen;omega,rfl,rfl⟩⟩
     have hBE:Below w9.heap.size w9 (w9.alloc (.cells #[] 25)):=(Below.refl _ _).alloc (Nat.le_refl _) _
     have hrow10:=hrow9.below hBE
     have hone:=rows_one hrow10
     have hone2:=hrvQ.one
     have hsrcP:=(owns_src hrow10.1).1
     have hTB9:=HTB8.out.mono hb9
     have hsm9:w9.heap.size≤(w9.alloc (.cells #[] 25)).heap.size:=hBE.size
     clear z0 z1 z2 zl y0 y1 y2 y3 yl HRE8 HROW8 hrow9 hRQ
     go_wp2_with (first|(at_builtin;refine wpList_open rfl ?_;refine wpList_append_any _ rfl _ _ 22 rfl w9.heap.size 25 i2 (.slice none 0 0) 24 Tryz.underlying22 hi hz0 hz1 hz2 rfl (.slice (some ⟨w9.heap.size,0,none⟩) 0 0) _ _ rfl hownE hsm9 a7 (pre.length+preM.length) c7 ((pre++preM).map Prod.fst) rfl (by simp) hsrcP hone (by unfold maxLen;omega) (by omega) ?_;intro v10 w10 hown10 hst10 hk10;obtain ⟨a10,c10,rfl⟩:=owns_shape hown10;rw[Nat.zero_add,List.nil_append] at hown10;have hB10:Below w9.heap.size w9 w10:=hBE.trans (hst10.below hsm9 (fun k e=>by cases e;exact Nat.le_refl _));have hsrcQ10:=hsrcQ.mono hB10)|(at_builtin;refine wpList_open rfl ?_;refine wpList_append_any _ rfl _ _ 22 rfl w9.heap.size 25 i2 (.slice none 0 0) 24 Tryz.underlying22 hi hz0 hz1 hz2 rfl (.slice a10 (pre.length+preM.length) c10) _ _ rfl hown10 hB10.size aq nq cq vs rfl hvl hsrcQ10 hone2 (by unfold maxLen;omega) (by omega) ?_;intro v11 w11 hown11 hst11 hk11;obtain ⟨a11,c11,rfl⟩:=owns_shape hown11))
     have hB11:Below w9.heap.size w9 w11:=hB10.trans (hst11.below hB10.size (fun k e=>owns_ge hown10 e))
     have hrc11:=(rc_of_rv hown11 (hrvA.mono hB11) (by omega)).1
     have HTC:=Lib.hid (table_c a11 aw _ nw c11 cw _ _ w11 hrc11 (hTB9.mono hB11))
     rw[sameT_self] at HTC
     clear hown10 hown11 hst10 hst11 hk10 hk11 hownE hrow10 hsrcP hsrcQ hsrcQ10 hone hone2 hrvA hrvQ hTB9 hrc11 hsl
     refine HTC.out.mono ?_
     rintro _ w12 ⟨rfl,hb12⟩
     have HP12:=Lib.hid (HPT8.out.below (keep_trans (keep_trans hb9 hB11) hb12))
     clear HTC HPT8 HTB8
     go_wp2_with fail
     go_roundw
     case rel=>exact ⟨k+1,a7,c7,ar,nr,cr,P1,(t+(y:Int)),false,pre++preM,by omega,by go_num,by rw[HTS1.out];go_num,by rw[List.length_append],by rw[List.length_append];exact HP12.out⟩
     case measure=>simp[intOf];omega
   ·have e:nb=k:=by omega
    subst e
    have hki:¬(nb:Int)<(nb:Int):=by omega
    have hcont:=HCN.out wr hBr none 0 0 [] 0 false (totTo XB nb) (IC.nil _) (Nat.le_refl _) HSE0.out (by omega) (by omega)
    rw[show contR ls sum g (totTo XB nb) ([],0,false)=partS ls sum g (totTo XB nb) from rfl,hI.st1,← hI.all] at hcont
    have HCO:=Lib.hid hcont
    obtain ⟨a0,a1,a2,al⟩:=p3 (HSAB.out wr hI.st)
    have hshp:∀x,x∈pre→x.2.length≤17592186044416:=fun x hx=>by
     have h1:x.2∈solsL ls sum g []:=by rw[← e3];exact List.mem_append_left _ (by rw[← hI.all];exact List.mem_map_of_mem hx)
     rw[sols_len h1]
     exact hgs
    have HSHP:=Lib.hid hshp
    have hpl:pre.length≤120:=by
     have h1:=congrArg List.length e3
     rw[List.length_append,← hI.all,List.length_map] at h1
     have:=HS5.out
     omega
    clear hcont e3 hI hshp
    go_wp2_with fail
    refine HCO.out.mono ?_
    rintro _ w2 ⟨ar,nr,cr,af,nf,cf,rfl,hIS,hcr1,hfp,hfr,hb2⟩
    obtain ⟨preM,hrowM,hallM,hlenM⟩:=hfr
    have hshM:∀x,x∈preM→x.2.length≤17592186044416:=fun x hx=>by
     have h1:x.2∈pre.map Prod.snd:=by rw[← hallM];exact List.mem_map_of_mem hx
     obtain ⟨y,hy,e⟩:=List.mem_map.1 h1
     rw[← e]
     exact HSHP.out y hy
    obtain ⟨am,cm,e5,hrcM,hcM⟩:=hrowM.rc (by omega) hshM
    have hnf:nf=preM.length:=by cases e5;rfl
    cases e5
    rw[hallM] at hrcM
    obtain ⟨av2,cv2,e6,hrcA,hcA⟩:=(HI.out.rows.below hb2).rc (by omega) HSHP.out
    cases e6
    have HRA:=Lib.hid hrcA
    have HRM:=Lib.hid hrcM
    have HIS:=Lib.hid hIS
    have HZ:=Lib.hid (keepq hb2 HI.out.q)
    have HPX:=Lib.hid (HI.out.path.1.1.mono hb2)
    clear x0 x1 x2 x3 xl y0 y1 y2 y3 yl z0 z1 z2 zl a0 a1 a2 al HCO hrcA hrcM hIS hrowM hshM
    go_upto_region 23 with fail
    have psz:(w2.alloc (.cells #[.slice ar nr cr,.int .i64 t,.bool d] 68)).heap.size=w2.heap.size+1:=by simp only[World.size_alloc]
    have pB:Below w2.heap.size w2 (w2.alloc (.cells #[.slice ar nr cr,.int .i64 t,.bool d] 68)):=(Below.refl _ _).alloc (Nat.le_refl _) _
    have pq0:(w2.alloc (.cells #[.slice ar nr cr,.int .i64 t,.bool d] 68)).heap[w2.heap.size]?=some (.cells #[.slice ar nr cr,.int .i64 t,.bool d] 68 (0,0)):=by have h:=World.alloc_heap_new w2 (.cells #[.slice ar nr cr,.int .i64 t,.bool d] 68);exact h
    generalize (w2.alloc (.cells #[.slice ar nr cr,.int .i64 t,.bool d] 68))=W3 at psz pB pq0 ⊢
    have HES:=Lib.hid (samest_c ar nr cr P t d ax nx cx P t d W3 (HIS.out.mono pB) (HPX.out.mono pB))
    rw[sameSt_self] at HES
    have HTC:Hid (∀W,Below W3.heap.size W3 W→Calls Tryz.prog 28 #[.slice af preM.length cf,.slice av pre.length cv] W fun e w'=>e = .returned (.bool true)∧Below W.heap.size W w'):=fun W hb=>by
     have h:=table_c af av preM.length pre.length cf cv _ _ W ((HRM.out.mono pB).mono hb) ((HRA.out.mono pB).mono hb)
     rw[sameT_self] at h
     exact h
    obtain ⟨z0,z1,z2,zl⟩:=p3 (keepq pB HZ.out)
    obtain ⟨c0,c1,c2,cl⟩:=p3 pq0
    have hfin:Below w.heap.size w W3:=keep_trans (keep_trans hBr hb2) pB
    have hcB:Below W3.heap.size W3 W3:=Below.refl _ _
    clear psz pq0 HI
    go_wp2_with (first|(go_at_call 41;refine HES.out.mono ?_;rintro _ w1 ⟨rfl,hb1⟩;replace hcB:=keep_trans hcB hb1)|(go_at_call 28;refine (HTC.out _ hcB).mono ?_;rintro _ w1 ⟨rfl,hb1⟩;replace hcB:=keep_trans hcB hb1)|(go_at_call 17;refine (HA.out _).mono ?_;rintro _ w1 ⟨rfl,hb1⟩;replace hcB:=keep_trans hcB hb1))
    go_ret
    exact ⟨rfl,keep_trans hfin hcB⟩
end
end Go.Proofs.YtcblpobiefmjmaaGreat
