/- Texts U1 to U7 of this proof, in one file. -/
import Derived.Test.YtaadpihbjhachaaGreatW04
import Derived.Test.YtaadpihbjhachaaGreatW05
import Derived.Test.YtaadpihbjhachaaGreatW10
import Derived.Test.YtaadpihbjhachaaGreatW18
import Derived.RangeFuncBox
import Derived.RangeFuncLeaves
import Derived.RangeFuncWrites
import Derived.Shelf.SortM.Plain
import Derived.Lib.SlKeysI
import Derived.Deep.CutBlock
import Derived.Deep.CutRange
namespace Go.Proofs.YtaadpihbjhachaaGreat
set_option maxRecDepth 100000
set_option maxHeartbeats 16000000
section
open Go Go.RowKit
attribute [local go_sem] over_cell
attribute [local go_sem] Oper.semAt_some
def numQ (f:List Int):Int:=whenV (anyP (fun k=>outB (-999999999) 999999999 (f[k]?.getD 0)) f.length) 3
def chkE (cells:Int) (ls:List (List Int)) (f:List Int):Int:=firstL [sysErr cells ls,whenV ((f.length:Int) != cells) 2,numQ f]
theorem numQ_eq (f:List Int):numQ f=numE f:=by
 unfold numQ numE
 cases h:anyP (fun k=>outB (-999999999) 999999999 (f[k]?.getD 0)) f.length with
 | true =>
  unfold anyP at h
  rw[List.any_eq_true] at h
  obtain ⟨k,hk,e⟩:=h
  rw[List.mem_range] at hk
  have hne:errs (numBad f) f.length≠0:=fun e0=>by
   have:=errs_zero e0 k hk
   unfold numBad at this
   simp only[outB,Bool.or_eq_true,decide_eq_true_eq] at e
   rw[if_pos e] at this
   omega
  have h3:∀n,errs (numBad f) n=0∨errs (numBad f) n=3:=fun n=>by
   unfold errs
   split
   ·rename_i i _
    unfold numBad
    split
    ·exact .inr rfl
    ·exact .inl rfl
   ·exact .inl rfl
  rcases h3 f.length with e1|e1
  ·exact absurd e1 hne
  ·rw[e1];rfl
 | false =>
  symm
  refine errs_none fun k hk=>?_
  unfold anyP at h
  rw[List.any_eq_false] at h
  have:=h k (by simpa using hk)
  simp only[outB,Bool.or_eq_true,decide_eq_true_eq] at this
  unfold numBad
  rw[if_neg this]
theorem chk_good {cells:Int} {ls:List (List Int)} {f:List Int} (h:sysErr cells ls=0):chkE cells ls f=fillE cells f:=by
 unfold chkE fillE
 rw[h,numQ_eq]
 by_cases e:(f.length:Int)=cells
 ·rw[if_neg (fun h=>h e)]
  have:((f.length:Int) != cells)=false:=by simpa using e
  rw[this]
  by_cases e2:numE f=0
  ·rw[e2];rfl
  ·simp[firstL,whenV,e2]
 ·rw[if_pos e]
  have:((f.length:Int) != cells)=true:=by simpa using e
  rw[this]
  rfl
theorem lnum_c (a:Option Addr) (n c:Nat) (f:List Int) (w:World) (h:IC w a n f) :
  Calls Tryz.prog 210 #[.slice a n c] w fun e w'=>e = .returned (.int .i64 (numQ f))∧Below w.heap.size w w':=by
 have HF:=Lib.hid (from_c a n c f (-999999999) 999999999 w h)
 have HE:Hid (numQ f=whenV (anyP (fun k=>outB (-999999999) 999999999 (f[k]?.getD 0)) n) 3):=by unfold Hid numQ;rw[h.len]
 clear h
 rw[← HE.out] at HF
 generalize numQ f=e at HF ⊢
 go_enter Tryz.func210,Tryz.ntmps210
 go_wp2_with (first|(go_at_call 164;refine HF.out.mono ?_;rintro _ w1 ⟨rfl,hb1⟩))
 go_ret
 exact ⟨rfl,hb1⟩
theorem lcheck_c (a:Option Addr) (n c:Nat) (ls:List (List Int)) (cells:Int) (af:Option Addr) (nf cf:Nat) (f:List Int) (w:World) (h:RC w a n ls) (hcap:n≤c) (hf:IC w af nf f) :
  Calls Tryz.prog 140 #[.agg #[.int .i64 cells,.slice a n c],.slice af nf cf] w fun e w'=>e = .returned (.int .i64 (chkE cells ls f))∧Below w.heap.size w w':=by
 have hm:=hf.small
 have HS:=Lib.hid (fun W (hb:Below w.heap.size w W)=>sys_c a n c ls cells W (h.mono hb) hcap)
 have HN:=Lib.hid (fun W (hb:Below w.heap.size w W)=>lnum_c af nf cf f W (hf.mono hb))
 have HE:Hid (chkE cells ls f=firstL [sysErr cells ls,whenV ((nf:Int) != cells) 2,numQ f]):=by unfold Hid chkE;rw[hf.len]
 clear h hf
 generalize chkE cells ls f=e at HE ⊢
 generalize sysErr cells ls=e1 at HS HE
 generalize numQ f=e3 at HN HE
 go_enter Tryz.func140,Tryz.ntmps140
 go_wp2_with fail
 have fsz:(w.alloc (.cells #[.int .i64 cells,.slice a n c] 24)).heap.size=w.heap.size+1:=by simp only[World.size_alloc]
 have fB:Below w.heap.size w (w.alloc (.cells #[.int .i64 cells,.slice a n c] 24)):=(Below.refl _ _).alloc (Nat.le_refl _) _
 have fq0:(w.alloc (.cells #[.int .i64 cells,.slice a n c] 24)).heap[w.heap.size]?=some (.cells #[.int .i64 cells,.slice a n c] 24 (0,0)):=by have h:=World.alloc_heap_new w (.cells #[.int .i64 cells,.slice a n c] 24);exact h
 generalize (w.alloc (.cells #[.int .i64 cells,.slice a n c] 24))=W0 at fsz fB fq0 ⊢
 have x0:W0.cell? ⟨w.heap.size,0,none⟩=some (.int .i64 cells):=q_cell fq0 0
 have x1:W0.cell? ⟨w.heap.size,1,none⟩=some (.slice a n c):=q_cell fq0 1
 have xl:=q_lt fq0
 clear fq0 fsz
 refine wp_region_S (fun w'=>∃u,w'=over (W0) u) [12,11,10,9] [(0,0),(0,2),(0,3),(0,4),(0,5),(0,6),(0,8),(1,1),(1,7),(2,9),(2,10),(2,11),(2,12)] (by kernel_rfl) (by kernel_rfl) (by exact ⟨_,below_over (by repeat (first|assumption|exact Below.refl _ _|refine keep_drew ?_|refine keep_alloc ?_ _|refine keep_trans ?_ (by assumption)))⟩) ?_
 dsimp only[pickOps,nthOp]
 repeat (first|(refine wpS_skip rfl (fun K hK=>?_);go_big_quiet_op;refine hK _ ?_;clear hK K)|(refine wpS_quiet rfl rfl (fun K hK=>?_);go_big_quiet_op;refine hK _ ?_;clear hK K)|(refine wpS_loud ?_;go_wp2_with (first|(go_at_call 94;refine (HS.out _ (keep_trans fB (keep_drew (Below.refl _ _)))).mono ?_;rintro _ w1 ⟨rfl,hb1⟩)|(go_at_call 165;refine (lwhen_c _ _ _).mono ?_;rintro _ w2 ⟨rfl,rfl⟩)|(go_at_call 210;refine (HN.out _ (keep_trans fB (keep_trans (keep_drew (Below.refl _ _)) hb1))).mono ?_;rintro _ w3 ⟨rfl,hb3⟩)|(go_at_call 163;refine (lfirst_c _ _ _ _ _ (IC.new3 _ _ _ _ _)).mono ?_;rintro _ w4 ⟨rfl,rfl⟩));refine ⟨?_,?_⟩;focus (exact ⟨_,below_over (by repeat (first|assumption|exact Below.refl _ _|refine keep_drew ?_|refine keep_alloc ?_ _|refine keep_trans ?_ (by assumption)))⟩)))
 refine wpS_late _ _ _ rfl ?_
 dsimp only[List.map]
 go_wp2_with (first|(go_at_call 94;refine (HS.out _ (keep_trans fB (keep_drew (Below.refl _ _)))).mono ?_;rintro _ w1 ⟨rfl,hb1⟩)|(go_at_call 165;refine (lwhen_c _ _ _).mono ?_;rintro _ w2 ⟨rfl,rfl⟩)|(go_at_call 210;refine (HN.out _ (keep_trans fB (keep_trans (keep_drew (Below.refl _ _)) hb1))).mono ?_;rintro _ w3 ⟨rfl,hb3⟩)|(go_at_call 163;refine (lfirst_c _ _ _ _ _ (IC.new3 _ _ _ _ _)).mono ?_;rintro _ w4 ⟨rfl,rfl⟩))
 refine NoPanic.normal ?_
 go_wp2_with fail
 go_ret
 refine ⟨ret_int HE.out.symm,keep_trans fB ?_⟩
 exact keep_alloc (keep_trans (keep_trans (keep_drew (Below.refl _ _)) hb1) hb3) _
theorem lsum_c (a a':Option Addr) (n n' c c':Nat) (l f:List Int) (w:World) (h:IC w a n l) (h':IC w a' n' f) (hn:n≤1000)
  (hl:∀k,k<n→0≤l[k]?.getD 0∧l[k]?.getD 0<(n':Int)) (hf:∀c:Nat,-1000000000≤f[c]?.getD 0∧f[c]?.getD 0≤1000000000) :
  Calls Tryz.prog 211 #[.slice a n c,.slice a' n' c'] w fun e w'=>(∃s:Int,e = .returned (.int .i64 s))∧w=w':=by
 have HF:=Lib.hid hf
 have HL:=Lib.hid hl
 clear hf hl
 have hm':=h'.small
 go_enter Tryz.func211,Tryz.ntmps211
 go_wp2
 go_loop [5,7,10] (fun s _ i=>∃(k:Nat) (t:Int),k≤n∧i = .int .i64 k∧s = .int .i64 t ∧ -1000000000*(k:Int)≤t∧t≤1000000000*(k:Int)) (fun _ _ i=>n - (intOf i).toNat)
 case atStart=>exact ⟨0,0,by omega,rfl,rfl,by omega,by omega⟩
 case round =>
  obtain ⟨k,t,hk,rfl,rfl,ht1,ht2⟩:=hrel
  by_cases hlt:k<n
  ·have hki:(k:Int)<(n:Int):=by omega
   obtain ⟨b,off,rfl,hb,hc⟩:=h.2 k hlt
   have hx:=HL.out k hlt
   obtain ⟨x,hxx⟩:∃x:Nat,l[k]?.getD 0=(x:Int):=⟨(l[k]?.getD 0).toNat,by omega⟩
   rw[hxx] at hc hx
   have hxn:x<n':=by omega
   have hxi:=hx.2
   obtain ⟨b2,off2,rfl,hb2,hc2⟩:=h'.2 x hxn
   have hfx:=HF.out x
   generalize f[x]?.getD 0=y at hc2 hfx
   have hkn:(k:Int)≤1000:=by omega
   clear hx hxx
   go_wp2
   go_round
   case rel=>exact ⟨k+1,t+y,by omega,by go_num,by go_num,by omega,by omega⟩
   case measure=>simp[intOf];omega
  ·have hki:¬(k:Int)<(n:Int):=by omega
   go_wp2
   go_ret
   exact ⟨⟨_,rfl⟩,rfl⟩
end
section
open Go Go.RowKit
attribute [local go_sem] over_cell
attribute [local go_sem] Oper.semAt_some
theorem lsums_c (a:Option Addr) (n c:Nat) (ls:List (List Int)) (cells:Int) (af:Option Addr) (nf cf:Nat) (f:List Int) (w:World) (h:RC w a n ls) (hf:IC w af nf f) (hn:n≤128)
  (hl:∀l,l∈ls→l.length≤1000∧∀x,x∈l→0≤x∧x<(nf:Int)) (hfb:∀c:Nat,-1000000000≤f[c]?.getD 0∧f[c]?.getD 0≤1000000000) :
  Calls Tryz.prog 141 #[.agg #[.int .i64 cells,.slice a n c],.slice af nf cf] w fun e w'=>(∃v,e = .returned v)∧Below w.heap.size w w':=by
 obtain ⟨i0,hi,hz0,hz1,hz2⟩:=info_parts infoInt
 have H:=Lib.hid h
 have hll:=Lib.hid h.len
 have HF:=Lib.hid hf
 have HL:Hid (∀k,k<n→(ls[k]?.getD []).length≤1000∧∀x,x∈ls[k]?.getD []→0≤x∧x<(nf:Int)):=fun k hk=>hl _ (by rw[List.getElem?_eq_getElem (by rw[h.len];exact hk)];exact List.getElem_mem _)
 have HFB:=Lib.hid hfb
 clear h hf hl hfb
 go_enter Tryz.func141,Tryz.ntmps141
 go_wp2_with fail
 have fsz:(w.alloc (.cells #[.int .i64 cells,.slice a n c] 24)).heap.size=w.heap.size+1:=by simp only[World.size_alloc]
 have fB:Below w.heap.size w (w.alloc (.cells #[.int .i64 cells,.slice a n c] 24)):=(Below.refl _ _).alloc (Nat.le_refl _) _
 have fq0:(w.alloc (.cells #[.int .i64 cells,.slice a n c] 24)).heap[w.heap.size]?=some (.cells #[.int .i64 cells,.slice a n c] 24 (0,0)):=by have h:=World.alloc_heap_new w (.cells #[.int .i64 cells,.slice a n c] 24);exact h
 generalize (w.alloc (.cells #[.int .i64 cells,.slice a n c] 24))=W0 at fsz fB fq0 ⊢
 have x1:W0.cell? ⟨w.heap.size,1,none⟩=some (.slice a n c):=q_cell fq0 1
 have xl:=q_lt fq0
 have fsz':w.heap.size<W0.heap.size:=by omega
 clear fq0 fsz
 go_wp2_with fail
 clear x1 xl
 go_loopw [5,7,11] (fun ov _ iv wr=>∃(k:Nat) (xs:List Value),k≤n∧iv = .int .i64 k∧xs.length=k∧wr.ownsRow W0.heap.size 3 1 ov xs.length xs∧Below W0.heap.size W0 wr) (fun _ _ iv _=>n - (intOf iv).toNat)
 case atStart=>exact ⟨0,[],by omega,rfl,rfl,World.ownsRow_nil _ _ _ _,Below.refl _ _⟩
 case round =>
  obtain ⟨k,xs,hk,rfl,hxl,hown,hbr⟩:=hrel
  obtain ⟨ao,co,e9⟩:=owns_shape hown
  subst e9
  have HXL:=Lib.hid hxl
  have hxs:xs.length≤128:=by omega
  have hbw:=keep_trans fB hbr
  have hszr:=hbr.size
  clear hxl
  by_cases hlt:k<n
  ·have hki:(k:Int)<(n:Int):=by omega
   obtain ⟨b,off,al,nl,cl,rfl,hb,hc,hil,_⟩:=(H.out.mono hbw).2 k hlt
   have hln:=HL.out k hlt
   generalize ls[k]?.getD []=l at hil hln
   have hnl:=hil.len
   have hlx:∀j,j<nl→0≤l[j]?.getD 0∧l[j]?.getD 0<(nf:Int):=fun j hj=>hln.2 _ (by rw[List.getElem?_eq_getElem (show j<l.length by omega)];exact List.getElem_mem _)
   have HS:=Lib.hid (lsum_c al af nl nf cl cf l f wr hil (HF.out.mono hbw) (by have:=hln.1;omega) hlx HFB.out)
   clear hil hln hnl hlx
   go_upto_region 5 with fail
   go_wp2_with fail
   refine HS.out.mono ?_
   rintro _ _ ⟨⟨s,rfl⟩,rfl⟩
   clear HS
   go_wp2_with (first|(at_builtin;refine wpList_append_own _ rfl _ _ 25 rfl W0.heap.size 3 i0 (.int .i64 0) 1 8 Tryz.underlying25 hi hz0 hz1 hz2 rfl (by decide) _ _ _ rfl (hown.alloc _) ⟨wr.heap.size,0,none⟩ 1 1 [.int .i64 s] rfl rfl (cell_one_new _ _ _) (by simp[Value.oneCell']) (by unfold maxLen;omega) (by omega) (by simp;omega) ?_))
   intro v5 w5 hown5 hgrow _
   have hs5:=grow_stays hgrow
   have hb5:Below W0.heap.size W0 w5:=hbr.trans (hs5.below hszr (fun k e=>owns_ge hown e))
   have hown6:=hown5
   rw[show xs.length+1=(xs++[Value.int .i64 s]).length from by simp] at hown6
   have HO:=Lib.hid hown6
   obtain ⟨a5,c5,e5⟩:=owns_shape hown6
   subst e5
   clear hown5 hown6 hgrow hs5 hown
   go_wp2_with fail
   go_roundw
   case rel=>exact ⟨k+1,_,by omega,by go_num,by rw[List.length_append,HXL.out];rfl,HO.out,hb5⟩
   case measure=>simp[intOf];omega
  ·have hki:¬(k:Int)<(n:Int):=by omega
   go_wp2_with fail
   go_ret
   exact ⟨⟨_,rfl⟩,hbw⟩
theorem lSums_c (a:Option Addr) (n c:Nat) (ls:List (List Int)) (cells:Int) (af:Option Addr) (nf cf:Nat) (f:List Int) (w:World) (h:RC w a n ls) (hcap:n≤c) (hf:IC w af nf f) (hn:n≤128) (hs:sysErr cells ls=0)
  (hl:∀l,l∈ls→l.length≤1000∧∀x,x∈l→0≤x∧x<cells) :
  Calls Tryz.prog 68 #[.agg #[.int .i64 cells,.slice a n c],.slice af nf cf] w fun e w'=>(∃v,e = .returned (.tuple #[v,.int .i64 (fillE cells f)]))∧Below w.heap.size w w':=by
 have HC:=Lib.hid (fun W (hb:Below w.heap.size w W)=>lcheck_c a n c ls cells af nf cf f W (h.mono hb) hcap (hf.mono hb))
 rw[chk_good hs] at HC
 have HS:Hid (fillE cells f=0→∀W,Below w.heap.size w W→Calls Tryz.prog 141 #[.agg #[.int .i64 cells,.slice a n c],.slice af nf cf] W fun e w'=>(∃v,e = .returned v)∧Below W.heap.size W w'):=fun e W hb=>by
  unfold fillE at e
  have hlen:=hf.len
  by_cases hc:(f.length:Int)=cells
  ·rw[if_neg (fun h=>h hc)] at e
   refine lsums_c a n c ls cells af nf cf f W (h.mono hb) (hf.mono hb) hn (fun l hl2=>⟨(hl l hl2).1,fun x hx=>by have:=(hl l hl2).2 x hx;omega⟩) (fun k=>?_)
   by_cases hk:k<f.length
   ·have:=errs_zero e k hk
    unfold numBad at this
    split at this
    ·cases this
    ·omega
   ·rw[List.getElem?_eq_none (by omega)];decide
  ·rw[if_pos hc] at e;cases e
 clear h hf hl hs
 generalize fillE cells f=er at HC HS ⊢
 go_enter Tryz.func68,Tryz.ntmps68
 go_wp2_with fail
 have fsz:(w.alloc (.cells #[.int .i64 cells,.slice a n c] 24)).heap.size=w.heap.size+1:=by simp only[World.size_alloc]
 have fB:Below w.heap.size w (w.alloc (.cells #[.int .i64 cells,.slice a n c] 24)):=(Below.refl _ _).alloc (Nat.le_refl _) _
 have fq0:(w.alloc (.cells #[.int .i64 cells,.slice a n c] 24)).heap[w.heap.size]?=some (.cells #[.int .i64 cells,.slice a n c] 24 (0,0)):=by have h:=World.alloc_heap_new w (.cells #[.int .i64 cells,.slice a n c] 24);exact h
 generalize (w.alloc (.cells #[.int .i64 cells,.slice a n c] 24))=W0 at fsz fB fq0 ⊢
 have HQ:=Lib.hid fq0
 have x0:W0.cell? ⟨w.heap.size,0,none⟩=some (.int .i64 cells):=q_cell fq0 0
 have x1:W0.cell? ⟨w.heap.size,1,none⟩=some (.slice a n c):=q_cell fq0 1
 have xl:=q_lt fq0
 clear fq0 fsz
 go_wp2_with fail
 refine (HC.out W0 fB).mono ?_
 rintro _ w1 ⟨rfl,hb1⟩
 have hB1:=keep_trans fB hb1
 clear x0 x1 xl
 have x0:w1.cell? ⟨w.heap.size,0,none⟩=some (.int .i64 cells):=q_cell (keepq hb1 HQ.out) 0
 have x1:w1.cell? ⟨w.heap.size,1,none⟩=some (.slice a n c):=q_cell (keepq hb1 HQ.out) 1
 have xl:=q_lt (keepq hb1 HQ.out)
 by_cases he:er=0
 ·have HS2:=Lib.hid (HS.out he w1 hB1)
  subst he
  clear HS
  go_wp2_with fail
  refine HS2.out.mono ?_
  rintro _ w2 ⟨⟨v,rfl⟩,hb2⟩
  go_wp2_with fail
  go_ret2
  exact ⟨⟨_,rfl⟩,keep_trans hB1 hb2⟩
 ·have hne:(er != 0)=true:=by simpa using he
  clear he
  go_wp2_with fail
  go_ret2
  exact ⟨⟨_,rfl⟩,hB1⟩
theorem lfill_c (a:Option Addr) (n c:Nat) (f:List Int) (w:World) (h:IC w a n f) (h0:1≤n) (h1:n≤256) :
  Calls Tryz.prog 142 #[.slice a n c] w fun e w'=>e = .returned (.int .i64 (numQ f))∧Below w.heap.size w w':=by
 have HN:=Lib.hid (fun W (hb:Below w.heap.size w W)=>lnum_c a n c f W (h.mono hb))
 clear h
 have HE:Hid (firstL [whenV false 12,whenV false 5,numQ f]=numQ f):=by
  unfold Hid
  by_cases h:numQ f=0
  ·rw[h];rfl
  ·simp[firstL,whenV,h]
 generalize numQ f=e3 at HN HE ⊢
 have d1:((n:Int)==0)=false:=by simp;omega
 have d2:decide ((256:Int)<(n:Int))=false:=decide_eq_false (by omega)
 go_enter Tryz.func142,Tryz.ntmps142
 go_wp2_with (first|(go_at_call 165;refine (lwhen_c _ _ _).mono ?_;rintro _ w2 ⟨rfl,rfl⟩)|(go_at_call 210;refine (HN.out _ (Below.refl _ _)).mono ?_;rintro _ w3 ⟨rfl,hb3⟩)|(go_at_call 163;refine (lfirst_c _ _ _ _ _ (IC.new3 _ _ _ _ _)).mono ?_;rintro _ w4 ⟨rfl,rfl⟩))
 go_ret
 exact ⟨ret_int (by first|exact HE.out|(rw[← HE.out];simp_all)),keep_alloc hb3 _⟩
end
section
open Go Go.RowKit Go.Shelf
attribute [local go_sem] Oper.semAt_some
def vTo (f:Nat→Int) (k:Nat):List Int:=(List.range k).map f
theorem vTo_succ (f:Nat→Int) (k:Nat):vTo f (k+1)=vTo f k++[f k]:=by simp[vTo,List.range_succ]
theorem vTo_length (f:Nat→Int) (k:Nat):(vTo f k).length=k:=by simp[vTo]
theorem vTo_all (zs:List Int):vTo (fun j=>zs[j]?.getD 0) zs.length=zs:=by
 apply List.ext_getElem
 ·simp[vTo]
 ·intro i h1 h2
  simp[vTo,h2]
theorem vTo_take (zs:List Int) {k:Nat} (hk:k≤zs.length):vTo (fun j=>zs[j]?.getD 0) k=zs.take k:=by
 apply List.ext_getElem
 ·simp[vTo,hk]
 ·intro i h1 h2
  have:i<zs.length:=by simp[vTo] at h1;omega
  simp[vTo,this]
theorem vals1_in (F:Fence) (n:Nat) (h7:F.fn 187) (hro:F.round=none) (hn:1≤n) (l Bs n₀ b off len cap:Nat) (zs:List Int) (hreach:len*8≤140737488351232) (hb:b<n₀) (J Jx:List Int→World→Prop)
  (hY:∀pre x W,J pre W→pre.length<len→YieldAt F (n - 1) Tryz.prog l #[.int .i64 x] W fun e W' =>
   (e = .returned (.bool true)∧J (pre++[x]) W'∧Below n₀ W W')∨(e = .returned (.bool false)∧Jx (pre++[x]) W'))
  (W:World) (hBs:W.cell? ⟨Bs,0,none⟩=some (.slice (some ⟨b,off,none⟩) len cap)) (hc:∀j,j<len→W.cell? ⟨b,off+j,none⟩=some (.int .i64 (zs[j]?.getD 0))) (h0:J [] W) :
  CallsIn F n Tryz.prog 187 #[.func (.yield l) #[] #[],.pointer (some ⟨Bs,0,none⟩)] W fun e W'=>(∃v,e = .returned v) ∧
   ((∃ys,ys=vTo (fun j=>zs[j]?.getD 0) len∧J ys W')∨(∃pre,(∃k,k≤len∧pre=vTo (fun j=>zs[j]?.getD 0) k)∧Jx pre W')):=by
 refine callsIn_of_wp Tryz.func187 rfl h7 ?_ hro
 simp only[Tryz.ntmps187,List.size_toArray,List.length_cons,List.length_nil,Nat.reduceAdd,Nat.reduceSub,Array.replicate_succ,Array.replicate_zero,List.push_toArray,List.append_toArray,List.nil_append,List.cons_append]
 gi_wp2
 gi_loopw [7] (fun i wr=>∃k:Nat,k≤len∧i = .int .i64 k∧J (vTo (fun j=>zs[j]?.getD 0) k) wr∧Below n₀ W wr)
  (fun i _=>len - (intOf i).toNat)
 case atStart=>exact ⟨0,Nat.zero_le _,rfl,h0,Below.refl _ _⟩
 case round =>
  obtain ⟨k,hk,rfl,hJs,hnx⟩:=hrel
  have hcx:k<len→wr.cell? ⟨b,off+k,none⟩=some (.int .i64 (zs[k]?.getD 0)):=fun h=>(hnx.cell (p:=⟨b,off+k,none⟩) hb).trans (hc k h)
  by_cases hlt:k<len
  ·obtain ⟨fn,tmps,assign,body,hy,hR⟩:=hY _ (zs[k]?.getD 0) wr hJs (by rw[vTo_length];exact hlt)
   have hcx':=hcx hlt
   gi_wp2
   refine hR.mono ?_
   rintro e W3 (⟨rfl,hJ3,hk3⟩|⟨rfl,hJx3⟩)
   ·gi_wp2
    go_roundw
    case rel=>exact ⟨k+1,by omega,by simp,by rw[vTo_succ];exact hJ3,hnx.trans hk3⟩
    case measure=>simp[intOf];omega
   ·gi_wp2
    refine bodyPost_ret (results_none rfl _ _ _) rfl ?_
    exact ⟨⟨_,rfl⟩,.inr ⟨_,⟨k+1,by omega,(vTo_succ _ _).symm⟩,hJx3⟩⟩
  ·obtain rfl:k=len:=by omega
   gi_wp2
   go_end0
   exact ⟨⟨_,rfl⟩,.inl ⟨_,rfl,hJs⟩⟩
theorem vals_stops (F:Fence) (n:Nat) (h7:F.fn 187) (hro:F.round=none) (hn:1≤n) (Bs n₀ b off cap:Nat) (zs:List Int) (hreach:zs.length*8≤140737488351232) (w:World) (hBs:Bs<w.heap.size) (hn₀:n₀≤w.heap.size) (hb:b<n₀)
  (hc:w.cell? ⟨Bs,0,none⟩=some (.slice (some ⟨b,off,none⟩) zs.length cap)) (hI:∀j,j<zs.length→w.cell? ⟨b,off+j,none⟩=some (.int .i64 (zs[j]?.getD 0))) :
  SeqStopsK F n Tryz.prog 187 #[.pointer (some ⟨Bs,0,none⟩)] (fun x:Int=>#[Value.int .i64 x]) (Below n₀) (fun ys=>ys=zs) (fun pre=>pre <+: zs) zs.length w:=fun l J Jx W hW _ _ hY h0=>by
 have hc':=(hW.cell (p:=⟨Bs,0,none⟩) hBs).trans hc
 refine (vals1_in F n h7 hro hn l Bs n₀ b off zs.length cap zs hreach hb J Jx hY W hc' (fun j hj=>(hW.cell (p:=⟨b,off+j,none⟩) (by show b<w.heap.size;omega)).trans (hI j hj)) h0).mono ?_
 rintro e W' ⟨he,⟨ys,rfl,hj⟩|⟨pre,⟨k,hk,rfl⟩,hj⟩⟩
 ·exact ⟨he,.inl ⟨_,vTo_all zs,hj⟩⟩
 ·exact ⟨he,.inr ⟨_,by rw[vTo_take zs hk];exact List.take_prefix _ _,hj⟩⟩
def AI (b:Nat) (pre:List Int) (W:World):Prop:=∃v,W.heap[b]?=some (.cells #[v] 25 (0,0))∧W.ownsRow (b+1) 3 1 v pre.length (pre.map (Value.int .i64))
theorem own_AI (b:Nat):Own (AI b):=by
 rintro pre A B row ⟨v,hq,hown⟩ hg hr
 refine ⟨v,(grownBy_keeps_cells hg hr hq rfl).trans hq,owns_keep hown (fun k e hlt=>?_)⟩
 obtain ⟨o,ho⟩:∃o,A.heap[k]?=some o:=⟨_,Array.getElem?_eq_getElem hlt⟩
 exact grownBy_keeps_cells hg hr ho (owns_cells hown e ho)
theorem appseq_in (F:Fence) (n:Nat) (hA:F.fn 230) (hV:F.fn 187) (hro:F.round=none) (hn:3≤n) (Bs b off cap:Nat) (zs:List Int) (hreach:zs.length≤100000) (w:World) (hBs:Bs<w.heap.size) (hb:b<w.heap.size)
  (hc:w.cell? ⟨Bs,0,none⟩=some (.slice (some ⟨b,off,none⟩) zs.length cap)) (hI:∀j,j<zs.length→w.cell? ⟨b,off+j,none⟩=some (.int .i64 (zs[j]?.getD 0))) :
  CallsIn F n Tryz.prog 230 #[.slice none 0 0,.func (.func 187) #[] #[.pointer (some ⟨Bs,0,none⟩)]] w fun e W'=>∃v,e = .returned v∧W'.ownsRow w.heap.size 3 1 v zs.length (zs.map (Value.int .i64))∧Below w.heap.size w W':=by
 have h1:1≤n:=by omega
 obtain ⟨i0,hi,hz0,hz1,hz2⟩:=info_parts infoInt
 have fB:Below w.heap.size w (w.alloc (.cells #[.slice none 0 0] 25)):=(Below.refl _ _).alloc (Nat.le_refl _) _
 have fq:(w.alloc (.cells #[.slice none 0 0] 25)).heap[w.heap.size]?=some (.cells #[.slice none 0 0] 25 (0,0)):=World.alloc_heap_new _ _
 refine callsIn_of_wp_marks Tryz.func230 rfl hA ?_ hro
 simp only[Tryz.ntmps230,List.size_toArray,List.length_cons,List.length_nil,Nat.reduceAdd,Nat.reduceSub,Array.replicate_succ,Array.replicate_zero,List.push_toArray,List.append_toArray,List.nil_append,List.cons_append]
 gi_wp2
 refine wpIn_rangeFunc_ownG hro h1 (gf:=187) (lb:=#[.pointer (some ⟨Bs,0,none⟩)]) rfl hV (enters_of Tryz.func187 (by kernel_rfl) rfl)
  (vals_stops F (n - 1) hV hro (by omega) Bs w.heap.size b off cap zs (by omega) _ (by simp;omega) (by simp) hb ((fB.cell (p:=⟨Bs,0,none⟩) hBs).trans hc) (fun j hj=>(fB.cell (p:=⟨b,off+j,none⟩) hb).trans (hI j hj))) belowK_t (belowK_b (by simp)) (Below.refl _ _) (fun _=>rfl)
  (fun pre W=>AI w.heap.size pre W∧Below w.heap.size w W) (fun _ _ _=>False)
  (OwnFrom.and (Own.from (own_AI _) _) (ownFrom_below (Nat.le_refl _) (by simp)))
  (fun _ _ _ _ _ hs _ _=>hs) ⟨⟨_,fq,World.ownsRow_nil _ _ _ _⟩,fB⟩ ?act ?assign ?body ?done ?stop
 case assign =>
  intro l x W K hK
  gi_wp2
  exact hK
 case body =>
  rintro l pre x W ⟨⟨v,hq,hown⟩,hB⟩ hlt
  obtain ⟨av,cv,rfl⟩:=owns_shape hown
  have c0:=q_cell hq 0
  have f0:=q_free hq 0
  have hsz:=hB.size
  have hql:=q_lt hq
  have hne:¬(Value.slice av pre.length cv).ownBlock=some w.heap.size:=fun e=>by have:=(hown.lt _ e).1;omega
  gi_wp2_with (gi_at_builtin;refine wpListIn_append_own_at _ rfl _ _ 25 rfl (w.heap.size+1) 3 i0 (.int .i64 0) 1 8 Tryz.underlying25 hi hz0 hz1 hz2 rfl (by decide) (.slice av pre.length cv) _ _ rfl (hown.alloc _) ⟨W.heap.size,0,none⟩ 1 1 [.int .i64 x] rfl rfl (cell_one_new _ _ _) (by simp[Value.oneCell']) (by unfold maxLen;omega) (by omega) (by simp;omega) ?_;intro v' w1 hown' hgrow _ hnew';obtain ⟨av',cv',rfl⟩:=owns_shape hown';have hs2:=grow_stays hgrow;have q5':=hs2.q hq hne;have c5':=q_cell q5' 0;have f5':=q_free q5' 0)
  have hne':(Value.slice av' (pre.length+1) cv').ownBlock≠some w.heap.size:=fun e=>by have:=(hown'.lt _ e).1;omega
  have hown2:=ownsRow_setCell_other hown' (a:=⟨w.heap.size,0,none⟩) hne' (.slice av' (pre.length+1) cv')
  have hbl:Below w.heap.size W (w1.setCell ⟨w.heap.size,0,none⟩ (.slice av' (pre.length+1) cv')):=(hs2.below (B:=w.heap.size) hsz (fun k e=>by have:=(hown.lt k e).1;omega)).setCell (p:=⟨w.heap.size,0,none⟩) (Nat.le_refl _) _
  exact ⟨(((KeepsOthers.alloc W _).trans (KeepsOthers.of_grownBy hgrow (fun j o e ho=>owns_cells (hown.alloc _) e ho))).trans (KeepsOthers.setCell _ _ _)).from _,hbl,⟨_,q_set q5' _,by rw[List.length_append,List.map_append];exact hown2⟩,hB.trans hbl⟩
 case done =>
  rintro D ys W hD rfl ⟨⟨v,hq,hown⟩,hB⟩ hK
  have c0:=q_cell hq 0
  have hk:∀(o':Obj) (k:Nat) (o:Obj),W.heap[k]?=some o→o.isCells=true→(W.putObj D o').heap[k]?=W.heap[k]?:=fun o' k o ho hc=>grownBy_keeps_cells (grownBy_putObj' W D o') (fun r e=>by cases e;exact ⟨_,hK,rfl⟩) ho hc
  gi_wp2
  refine ⟨by simp,.inl ⟨_,_,rfl,run_takeDeferred hK,?_⟩⟩
  refine ⟨_,results_tmp rfl _ _ _,v,rfl,owns_keep (owns_base hown (by omega)) (fun k e hlt=>?_),hB.trans (belowK_b (w:=w) (Nat.le_refl _) W D _ _ (by simp at hD;omega) hK rfl rfl)⟩
  exact hk _ k _ (Array.getElem?_eq_getElem hlt) (owns_cells hown e (Array.getElem?_eq_getElem hlt))
 case stop =>
  rintro D c pre W _ _ h _
  exact h.elim
end
section
open Go Go.RowKit Go.Shelf Go.Sort
attribute [local go_sem] Oper.semAt_some
def sortA_ren:Go.Shelf.Ren:=⟨fun|5=>58|8=>136|7=>135|19=>207|20=>208|10=>198|11=>199|12=>200|13=>201|14=>202|15=>203|16=>204|17=>205|18=>206|30=>233|31=>234|32=>235|33=>236|34=>237|35=>238|40=>257|n=>n,fun|23=>25|25=>3|3=>3|32=>188|22=>25|0=>0|44=>245|46=>146|4=>4|36=>238|35=>237|41=>109|5=>5|9=>9|53=>264|57=>268|63=>281|64=>124|n=>n,fun|n=>n⟩
theorem sortA:Go.Proofs.SlLaysM.n5 Tryz.prog sortA_ren where
 mixed:=by kernel_rfl
 f5:=⟨Tryz.f58.name,by kernel_rfl,Tryz.func58.trans (congrArg some (by kernel_rfl))⟩
 f7:=⟨Tryz.f135.name,by kernel_rfl,Tryz.func135.trans (congrArg some (by kernel_rfl))⟩
 f8:=Tryz.func136.trans (congrArg some (by kernel_rfl))
 f10:=⟨Tryz.f198.name,by kernel_rfl,Tryz.func198.trans (congrArg some (by kernel_rfl))⟩
 f11:=⟨Tryz.f199.name,by kernel_rfl,Tryz.func199.trans (congrArg some (by kernel_rfl))⟩
 f12:=⟨Tryz.f200.name,by kernel_rfl,Tryz.func200.trans (congrArg some (by kernel_rfl))⟩
 f13:=⟨Tryz.f201.name,by kernel_rfl,Tryz.func201.trans (congrArg some (by kernel_rfl))⟩
 f14:=⟨Tryz.f202.name,by kernel_rfl,Tryz.func202.trans (congrArg some (by kernel_rfl))⟩
 f15:=⟨Tryz.f203.name,by kernel_rfl,Tryz.func203.trans (congrArg some (by kernel_rfl))⟩
 f16:=⟨Tryz.f204.name,by kernel_rfl,Tryz.func204.trans (congrArg some (by kernel_rfl))⟩
 f17:=⟨Tryz.f205.name,by kernel_rfl,Tryz.func205.trans (congrArg some (by kernel_rfl))⟩
 f18:=⟨Tryz.f206.name,by kernel_rfl,Tryz.func206.trans (congrArg some (by kernel_rfl))⟩
 f19:=Tryz.func207.trans (congrArg some (by kernel_rfl))
 f20:=Tryz.func208.trans (congrArg some (by kernel_rfl))
 f30:=⟨Tryz.f233.name,by kernel_rfl,Tryz.func233.trans (congrArg some (by kernel_rfl))⟩
 f31:=Tryz.func234.trans (congrArg some (by kernel_rfl))
 f32:=Tryz.func235.trans (congrArg some (by kernel_rfl))
 f33:=⟨Tryz.f236.name,by kernel_rfl,Tryz.func236.trans (congrArg some (by kernel_rfl))⟩
 f34:=⟨Tryz.f237.name,by kernel_rfl,Tryz.func237.trans (congrArg some (by kernel_rfl))⟩
 f35:=⟨Tryz.f238.name,by kernel_rfl,Tryz.func238.trans (congrArg some (by kernel_rfl))⟩
 f40:=⟨Tryz.f257.name,by kernel_rfl,Tryz.func257.trans (congrArg some (by kernel_rfl))⟩
 t0:=Tryz.underlying0
 a0:=Tryz.isAgg0
 z0:=Tryz.sizeOf0
 v0:=Tryz.zeroValue0
 t3:=Tryz.underlying3
 a3:=Tryz.isAgg3
 z3:=Tryz.sizeOf3
 v3:=Tryz.zeroValue3
 t4:=Tryz.underlying4
 a4:=Tryz.isAgg4
 z4:=Tryz.sizeOf4
 v4:=Tryz.zeroValue4
 t5:=Tryz.underlying5
 a5:=Tryz.isAgg5
 z5:=Tryz.sizeOf5
 v5:=Tryz.zeroValue5
 t9:=Tryz.underlying9
 a9:=Tryz.isAgg9
 z9:=Tryz.sizeOf9
 v9:=Tryz.zeroValue9
 t22:=Tryz.underlying25
 a22:=Tryz.isAgg25
 z22:=Tryz.sizeOf25
 v22:=Tryz.zeroValue25
 t23:=Tryz.underlying25
 a23:=Tryz.isAgg25
 z23:=Tryz.sizeOf25
 v23:=Tryz.zeroValue25
 t25:=Tryz.underlying3
 a25:=Tryz.isAgg3
 z25:=Tryz.sizeOf3
 v25:=Tryz.zeroValue3
 t32:=Tryz.underlying188
 a32:=Tryz.isAgg188
 z32:=Tryz.sizeOf188
 v32:=Tryz.zeroValue188
 t35:=Tryz.underlying237
 a35:=Tryz.isAgg237
 z35:=Tryz.sizeOf237
 v35:=Tryz.zeroValue237
 t36:=Tryz.underlying238
 a36:=Tryz.isAgg238
 z36:=Tryz.sizeOf238
 v36:=Tryz.zeroValue238
 t41:=Tryz.underlying109
 a41:=Tryz.isAgg109
 z41:=Tryz.sizeOf109
 v41:=Tryz.zeroValue109
 t44:=Tryz.underlying245
 a44:=Tryz.isAgg245
 z44:=Tryz.sizeOf245
 v44:=Tryz.zeroValue245
 t46:=Tryz.underlying146
 a46:=Tryz.isAgg146
 z46:=Tryz.sizeOf146
 v46:=Tryz.zeroValue146
 t53:=Tryz.underlying264
 a53:=Tryz.isAgg264
 z53:=Tryz.sizeOf264
 v53:=Tryz.zeroValue264
 t57:=Tryz.underlying268
 a57:=Tryz.isAgg268
 z57:=Tryz.sizeOf268
 v57:=Tryz.zeroValue268
 t63:=Tryz.underlying281
 a63:=Tryz.isAgg281
 z63:=Tryz.sizeOf281
 v63:=Tryz.zeroValue281
 t64:=Tryz.underlying124
 a64:=Tryz.isAgg124
 z64:=Tryz.sizeOf124
 v64:=Tryz.zeroValue124
theorem appseq_c (Bs b off cap:Nat) (zs:List Int) (hreach:zs.length≤100000) (w:World) (hBs:Bs<w.heap.size) (hb:b<w.heap.size)
  (hc:w.cell? ⟨Bs,0,none⟩=some (.slice (some ⟨b,off,none⟩) zs.length cap)) (hI:∀j,j<zs.length→w.cell? ⟨b,off+j,none⟩=some (.int .i64 (zs[j]?.getD 0))) :
  Calls Tryz.prog 230 #[.slice none 0 0,.func (.func 187) #[] #[.pointer (some ⟨Bs,0,none⟩)]] w fun e W'=>∃v,e = .returned v∧W'.ownsRow w.heap.size 3 1 v zs.length (zs.map (Value.int .i64))∧Below w.heap.size w W' :=
 (callsIn_wide (n:=6)).1 (appseq_in Fence.wide 6 trivial trivial rfl (by omega) Bs b off cap zs hreach w hBs hb hc hI)
theorem values_c (a:Option Addr) (n c:Nat) (w:World):Calls Tryz.prog 121 #[.slice a n c] w fun e w'=>e = .returned (.func (.func 187) #[] #[.pointer (some ⟨w.heap.size,0,none⟩)])∧w'=w.alloc (.cells #[.slice a n c] 25):=by
 go_enter Tryz.func121,Tryz.ntmps121
 go_wp2
 go_ret
 exact ⟨rfl,rfl⟩
theorem sorted_c (Bs b off cap:Nat) (zs:List Int) (hreach:zs.length≤100000) (h1:1≤zs.length) (w:World) (hBs:Bs<w.heap.size) (hb:b<w.heap.size)
  (hc:w.cell? ⟨Bs,0,none⟩=some (.slice (some ⟨b,off,none⟩) zs.length cap)) (hI:∀j,j<zs.length→w.cell? ⟨b,off+j,none⟩=some (.int .i64 (zs[j]?.getD 0))) :
  Calls Tryz.prog 120 #[.func (.func 187) #[] #[.pointer (some ⟨Bs,0,none⟩)]] w fun e w'=>(∃v,e = .returned v∧w'.ownsRow w.heap.size 3 1 v zs.length ((zs.mergeSort (fun x y=>decide (x≤y))).map (Value.int .i64)))∧Below w.heap.size w w':=by
 have HC:=Lib.hid (appseq_c Bs b off cap zs hreach w hBs hb hc hI)
 have HCO:Calls Tryz.prog 186 #[.func (.func 187) #[] #[.pointer (some ⟨Bs,0,none⟩)]] w fun e w'=>(∃v,e = .returned v∧w'.ownsRow w.heap.size 3 1 v zs.length (zs.map (Value.int .i64)))∧Below w.heap.size w w':=by
  clear hc hI
  go_enter Tryz.func186,Tryz.ntmps186
  go_wp2_with (first|(go_at_call 230;refine HC.out.mono ?_;rintro _ w1 ⟨v,rfl,hown,hb1⟩))
  go_ret
  exact ⟨⟨_,rfl,hown⟩,hb1⟩
 have HCO:=Lib.hid HCO
 clear hc hI HC
 go_enter Tryz.func120,Tryz.ntmps120
 go_wp2_with fail
 refine HCO.out.mono ?_
 rintro _ w1 ⟨⟨v,rfl,hown⟩,hb1⟩
 rcases hown.2 with ⟨_,hz⟩|⟨gb,cap1,cur,rfl,hbase,hgb,r1,r2,r3,r4⟩
 ·omega
 have hH:Holds (Value.int .i64) w1 gb 0 zs.toArray:=holds_of_block_i hgb (by simpa using r4)
 have hgl:gb<w1.heap.size:=(Array.getElem?_eq_some_iff.1 hgb).1
 have HS:Hid (Calls Tryz.prog 58 #[.slice (some ⟨gb,0,none⟩) zs.length cap1] w1 fun e w'=>e = .returned (.tuple #[])∧∃n os,w'=grow (putRow (Value.int .i64) (Sort.ahead w1 n) gb 0 (zs.mergeSort fun x y=>decide (x≤y)).toArray) os):=AnyM.slices_Sort_int sortA gb 0 cap1 zs w1 hH hgl (by omega)
 have HOS:Hid (∀nn os,(grow (putRow (Value.int .i64) (Sort.ahead w1 nn) gb 0 (zs.mergeSort fun x y=>decide (x≤y)).toArray) os).ownsRow w.heap.size 3 1 (.slice (some ⟨gb,0,none⟩) zs.length cap1) zs.length ((zs.mergeSort (fun x y=>decide (x≤y))).map (Value.int .i64))∧Below w.heap.size w (grow (putRow (Value.int .i64) (Sort.ahead w1 nn) gb 0 (zs.mergeSort fun x y=>decide (x≤y)).toArray) os)):=fun nn os=>⟨ownsRow_sorted_i (by simp) hbase hgb r1 r2 r3,hb1.grown (grownBy_sorted_i _) hb1.size (fun j hj=>by cases hj;exact hbase)⟩
 clear hown r1 r2 r3 r4 hH hgb hgl
 go_wp2_with fail
 refine HS.out.mono ?_
 rintro _ w2 ⟨rfl,nn,os,hw2⟩
 have hfin:=HOS.out nn os
 rw[← hw2] at hfin
 clear hw2 HS HOS
 go_wp2_with fail
 go_ret
 exact ⟨⟨_,rfl,hfin.1⟩,hfin.2⟩
end
section
open Go Go.RowKit
def srt (f:List Int):List Int:=f.mergeSort (fun x y=>decide (x≤y))
theorem srt_len (f:List Int):(srt f).length=f.length:=List.length_mergeSort f
theorem srt_mem {f:List Int} {x:Int}:x∈srt f↔x∈f:=List.mem_mergeSort
theorem srt_up (f:List Int):∀i j,i<j→j<f.length→(srt f)[i]?.getD 0≤(srt f)[j]?.getD 0:=by
 intro i j hij hj
 have hp:=List.pairwise_mergeSort (le:=fun x y:Int=>decide (x≤y)) (fun a b c h1 h2=>by simp at h1 h2 ⊢;omega) (fun a b=>by simp;omega) f
 have hl:=srt_len f
 have h:=List.pairwise_iff_getElem.1 hp i j (by unfold srt at hl;omega) (by unfold srt at hl;omega) hij
 rw[List.getElem?_eq_getElem (by omega),List.getElem?_eq_getElem (by omega)]
 exact of_decide_eq_true h
theorem srt_norm {f:List Int} (h:normB f=true):∀k,k<f.length→(srt f)[k]?.getD 0=(k:Int)+1:=by
 unfold normB at h
 rw[List.all_eq_true] at h
 have hl:=srt_len f
 have hex:∀v,v<f.length→∃i,i<f.length∧(srt f)[i]?.getD 0=(v:Int)+1:=by
  intro v hv
  have h1:=h v (by simpa using hv)
  have h2:((v:Int)+1)∈srt f:=srt_mem.2 (by unfold hasB at h1;simpa using h1)
  obtain ⟨i,hi,e⟩:=List.getElem_of_mem h2
  exact ⟨i,by omega,by rw[List.getElem?_eq_getElem hi];exact e⟩
 have hlt:∀i j,i<f.length→j<f.length→(srt f)[i]?.getD 0<(srt f)[j]?.getD 0→i<j:=by
  intro i j hi hj hx
  apply Classical.byContradiction
  intro hn
  rcases Nat.lt_or_ge j i with h1|h1
  ·have:=srt_up f j i h1 hi;omega
  ·have e:i=j:=by omega
   subst e
   omega
 have lo:∀v i,v<f.length→i<f.length→(srt f)[i]?.getD 0=(v:Int)+1→v≤i:=by
  intro v
  induction v with
  | zero=>intro i _ _ _;omega
  | succ v ih =>
   intro i hv hi e
   obtain ⟨j,hj,ej⟩:=hex v (by omega)
   have h1:=ih j (by omega) hj ej
   have h2:=hlt j i hj hi (by omega)
   omega
 have hi:∀d v i,v+d+1=f.length→i<f.length→(srt f)[i]?.getD 0=(v:Int)+1→i≤v:=by
  intro d
  induction d with
  | zero=>intro v i hv hi _;omega
  | succ d ih =>
   intro v i hv hi e
   obtain ⟨j,hj,ej⟩:=hex (v+1) (by omega)
   have h1:=ih (v+1) j (by omega) hj ej
   have h2:=hlt i j hi hj (by omega)
   omega
 intro k hk
 obtain ⟨i,hi1,e⟩:=hex k hk
 have h1:=lo k i hk hi1 e
 have h2:=hi (f.length - k - 1) k i (by omega) hi1 e
 have e2:i=k:=by omega
 rw[← e2,e,e2]
theorem norm_srt {f:List Int} (h:∀k,k<f.length→(srt f)[k]?.getD 0=(k:Int)+1):normB f=true:=by
 refine norm_end fun k hk=>?_
 have h1:=h k hk
 have hl:=srt_len f
 have h2:(k:Int)+1∈srt f:=by
  rw[← h1,List.getElem?_eq_getElem (by omega)]
  exact List.getElem_mem _
 unfold hasB
 simpa using srt_mem.1 h2
end
section
open Go Go.RowKit
attribute [local go_sem] over_cell
attribute [local go_sem] Oper.semAt_some
theorem lnorm1_c (a:Option Addr) (n c:Nat) (f:List Int) (w:World) (h:IC w a n f) (h1:1≤n) (h2:n≤256) :
  Calls Tryz.prog 143 #[.slice a n c] w fun e w'=>e = .returned (.bool (normB f))∧Below w.heap.size w w':=by
 have hl:=h.len
 obtain ⟨b,off,rfl,hb,_⟩:=h.2 0 (by omega)
 have HY:Hid (∀k,k<n→(srt f)[k]?.getD 0≠(k:Int)+1→normB f=false):=fun k hk hne=>by
  rw[Bool.eq_false_iff]
  intro e
  exact hne (srt_norm e k (by omega))
 have HZ:Hid ((∀k,k<n→(srt f)[k]?.getD 0=(k:Int)+1)→normB f=true):=fun e=>norm_srt (fun k hk=>e k (by omega))
 have fB:Below w.heap.size w (w.alloc (.cells #[.slice (some ⟨b,off,none⟩) n c] 25)):=(Below.refl _ _).alloc (Nat.le_refl _) _
 have fq:(w.alloc (.cells #[.slice (some ⟨b,off,none⟩) n c] 25)).heap[w.heap.size]?=some (.cells #[.slice (some ⟨b,off,none⟩) n c] 25 (0,0)):=World.alloc_heap_new _ _
 have HS:=sorted_c w.heap.size b off c f (by omega) (by omega) (w.alloc (.cells #[.slice (some ⟨b,off,none⟩) n c] 25)) (q_lt fq) (Nat.lt_of_lt_of_le hb fB.size) (by rw[hl];exact q_cell fq 0) (fun j hj=>by
  obtain ⟨b2,off2,e,_,hc⟩:=(h.mono fB).2 j (by omega)
  cases e
  exact hc)
 rw[hl] at HS
 have HS:=Lib.hid HS
 have HFB:=Lib.hid fB
 clear h fq fB hl
 generalize normB f=nb at HY HZ ⊢
 go_enter Tryz.func143,Tryz.ntmps143
 go_wp2_with (first|(go_at_call 121;refine (values_c _ _ _ _).mono ?_;rintro _ _ ⟨rfl,rfl⟩))
 refine HS.out.mono ?_
 rintro _ w2 ⟨⟨v,rfl,hown⟩,hb2⟩
 have hB2:=keep_trans HFB.out hb2
 have hsl:(srt f).length=n:=hown.1 |> fun h=>by simpa [srt] using h
 obtain ⟨a2,c2,rfl⟩:=owns_shape hown
 have hic:=(IC.of_owns (xs:=srt f) (by rw[hsl];exact hown) (by omega)).1
 have HI:=Lib.hid hic
 clear hown hic hsl HS HFB
 generalize srt f=s at HY HZ HI
 go_wp2_with fail
 go_loop [3,4,9] (fun _ _ iv=>∃k:Nat,k≤n∧iv = .int .i64 k∧Hid (∀j,j<k→s[j]?.getD 0=(j:Int)+1)) (fun _ _ iv=>n - (intOf iv).toNat)
 case atStart=>exact ⟨0,by omega,rfl,fun j hj=>absurd hj (by omega)⟩
 case round =>
  obtain ⟨k,hk,rfl,hno⟩:=hrel
  by_cases hlt:k<n
  ·have hki:(k:Int)<(n:Int):=by omega
   obtain ⟨b3,off3,rfl,hb3,hc3⟩:=HI.out.2 k hlt
   have HYk:=Lib.hid (HY.out k hlt)
   by_cases he:s[k]?.getD 0=(k:Int)+1
   ·have HSN:Hid (∀j,j<k+1→s[j]?.getD 0=(j:Int)+1):=fun j hj=>by
     by_cases e:j=k
     ·rw[e];exact he
     ·exact hno.out j (by omega)
    rw[he] at hc3
    clear he
    go_wp2_with fail
    go_round
    case rel=>exact ⟨k+1,by omega,by go_num,HSN.out⟩
    case measure=>simp[intOf];omega
   ·have HNB:=Lib.hid (HYk.out he)
    have hne:((s[k]?.getD 0) != ((k:Int)+1))=true:=by simpa using he
    clear he
    generalize s[k]?.getD 0=x at hc3 hne
    clear HYk
    go_wp2_with fail
    go_ret
    exact ⟨ret_bool HNB.out.symm,hB2⟩
  ·have hki:¬(k:Int)<(n:Int):=by omega
   have HT:=Lib.hid (HZ.out (fun j hj=>hno.out j (by omega)))
   go_wp2_with fail
   go_ret
   exact ⟨ret_bool HT.out.symm,hB2⟩
theorem lnorm_c (a:Option Addr) (n c:Nat) (f:List Int) (w:World) (h:IC w a n f) (h1:1≤n) (h2:n≤256) (hq:numE f=0) :
  Calls Tryz.prog 69 #[.slice a n c] w fun e w'=>e = .returned (.tuple #[.bool (normB f),.int .i64 0])∧Below w.heap.size w w':=by
 have HC:=Lib.hid (lfill_c a n c f w h h1 h2)
 rw[numQ_eq,hq] at HC
 have HN:=Lib.hid (fun W (hb:Below w.heap.size w W)=>lnorm1_c a n c f W (h.mono hb) h1 h2)
 clear h
 generalize normB f=nb at HN ⊢
 go_enter Tryz.func69,Tryz.ntmps69
 go_wp2_with (first|(go_at_call 142;refine HC.out.mono ?_;rintro _ w1 ⟨rfl,hb1⟩)|(go_at_call 143;refine (HN.out _ hb1).mono ?_;rintro _ w2 ⟨rfl,hb2⟩))
 go_ret2
 exact ⟨rfl,keep_trans hb1 hb2⟩
end
end Go.Proofs.YtaadpihbjhachaaGreat
