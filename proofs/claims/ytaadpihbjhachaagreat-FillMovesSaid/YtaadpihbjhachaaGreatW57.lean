/- Texts U1 to U2 of this proof, in one file. -/
import Derived.Test.YtaadpihbjhachaaGreatW03
import Derived.Test.YtaadpihbjhachaaGreatW04
import Derived.Test.YtaadpihbjhachaaGreatW07
import Derived.Test.YtaadpihbjhachaaGreatW28
namespace Go.Proofs.YtaadpihbjhachaaGreat
set_option maxRecDepth 100000
set_option maxHeartbeats 16000000
section
open Go Go.RowKit
attribute [local go_sem] zv
attribute [local go_sem] Oper.semAt_some
def numQ (f:List Int):Int:=zn (qh (fun k=>outB (-999999999) 999999999 (f[k]?.getD 0)) f.length) 3
def chkE (cells:Int) (ls:List (List Int)) (f:List Int):Int:=zz [zX cells ls,zn ((f.length:Int) != cells) 2,numQ f]
theorem numQ_eq (f:List Int):numQ f=numE f:=by
 unfold numQ numE
 cases h:qh (fun k=>outB (-999999999) 999999999 (f[k]?.getD 0)) f.length with
 | true =>
  unfold qh at h
  rw[List.any_eq_true] at h
  obtain ⟨k,hk,e⟩:=h
  rw[List.mem_range] at hk
  have hne:qQ (numBad f) f.length≠0:=fun e0=>by
   have:=ki e0 k hk
   unfold numBad at this
   simp only[outB,Bool.or_eq_true,decide_eq_true_eq] at e
   rw[if_pos e] at this
   omega
  have h3:∀n,qQ (numBad f) n=0∨qQ (numBad f) n=3:=fun n=>by
   unfold qQ
   split
   ·rename_i i _
    unfold numBad
    split
    ·exact .inr rfl
    ·exact .inl rfl
   ·exact .inl rfl
  rcases h3 f.length with e1|e1
  ·exact absurd e1 hne
  ·rw[e1];rfl
 | false =>
  symm
  refine ju fun k hk=>?_
  unfold qh at h
  rw[List.any_eq_false] at h
  have:=h k (by simpa using hk)
  simp only[outB,Bool.or_eq_true,decide_eq_true_eq] at this
  unfold numBad
  rw[if_neg this]
theorem chk_good {cells:Int} {ls:List (List Int)} {f:List Int} (h:zX cells ls=0):chkE cells ls f=fillE cells f:=by
 unfold chkE fillE
 rw[h,numQ_eq]
 by_cases e:(f.length:Int)=cells
 ·rw[if_neg (fun h=>h e)]
  have:((f.length:Int) != cells)=false:=by simpa using e
  rw[this]
  by_cases e2:numE f=0
  ·rw[e2];rfl
  ·simp[zz,zn,e2]
 ·rw[if_pos e]
  have:((f.length:Int) != cells)=true:=by simpa using e
  rw[this]
  rfl
theorem lnum_c (a:Option Addr) (n c:Nat) (f:List Int) (w:World) (h:IC w a n f) :
  Calls Tryz.prog 210 #[.slice a n c] w fun e w'=>e = .returned (.int .i64 (numQ f))∧Below w.heap.size w w':=by
 have HF:=za (from_c a n c f (-999999999) 999999999 w h)
 have HE:Hid (numQ f=zn (qh (fun k=>outB (-999999999) 999999999 (f[k]?.getD 0)) n) 3):=by unfold Hid numQ;rw[h.len]
 clear h
 rw[← HE.out] at HF
 generalize numQ f=e at HF ⊢
 go_enter Tryz.func210,Tryz.ntmps210
 go_wp2_with (first|(go_at_call 164;refine HF.out.mono ?_;rintro _ w1 ⟨rfl,hb1⟩))
 go_ret
 exact ⟨rfl,hb1⟩
theorem lcheck_c (a:Option Addr) (n c:Nat) (ls:List (List Int)) (cells:Int) (af:Option Addr) (nf cf:Nat) (f:List Int) (w:World) (h:RC w a n ls) (hcap:n≤c) (hf:IC w af nf f) :
  Calls Tryz.prog 140 #[.agg #[.int .i64 cells,.slice a n c],.slice af nf cf] w fun e w'=>e = .returned (.int .i64 (chkE cells ls f))∧Below w.heap.size w w':=by
 have hm:=hf.small
 have HS:=za (fun W (hb:Below w.heap.size w W)=>sys_c a n c ls cells W (h.mono hb) hcap)
 have HN:=za (fun W (hb:Below w.heap.size w W)=>lnum_c af nf cf f W (hf.mono hb))
 have HE:Hid (chkE cells ls f=zz [zX cells ls,zn ((nf:Int) != cells) 2,numQ f]):=by unfold Hid chkE;rw[hf.len]
 clear h hf
 generalize chkE cells ls f=e at HE ⊢
 generalize zX cells ls=e1 at HS HE
 generalize numQ f=e3 at HN HE
 go_enter Tryz.func140,Tryz.ntmps140
 go_wp2_with fail
 have fsz:(w.alloc (.cells #[.int .i64 cells,.slice a n c] 24)).heap.size=w.heap.size+1:=by simp only[World.size_alloc]
 have fB:Below w.heap.size w (w.alloc (.cells #[.int .i64 cells,.slice a n c] 24)):=(Below.refl _ _).alloc (Nat.le_refl _) _
 have fq0:(w.alloc (.cells #[.int .i64 cells,.slice a n c] 24)).heap[w.heap.size]?=some (.cells #[.int .i64 cells,.slice a n c] 24 (0,0)):=by have h:=World.alloc_heap_new w (.cells #[.int .i64 cells,.slice a n c] 24);exact h
 generalize (w.alloc (.cells #[.int .i64 cells,.slice a n c] 24))=W0 at fsz fB fq0 ⊢
 have x0:W0.cell? ⟨w.heap.size,0,none⟩=some (.int .i64 cells):=zc fq0 0
 have x1:W0.cell? ⟨w.heap.size,1,none⟩=some (.slice a n c):=zc fq0 1
 have xl:=zy fq0
 clear fq0 fsz
 refine zk (fun w'=>∃u,w'=over (W0) u) [12,11,10,9] [(0,0),(0,2),(0,3),(0,4),(0,5),(0,6),(0,8),(1,1),(1,7),(2,9),(2,10),(2,11),(2,12)] (by kernel_rfl) (by kernel_rfl) (by exact ⟨_,zi (by repeat (first|assumption|exact Below.refl _ _|refine zd ?_|refine zg ?_ _|refine zb ?_ (by assumption)))⟩) ?_
 dsimp only[zt,zG]
 repeat (first|(refine zu rfl (fun K hK=>?_);go_big_quiet_op;refine hK _ ?_;clear hK K)|(refine zp rfl rfl (fun K hK=>?_);go_big_quiet_op;refine hK _ ?_;clear hK K)|(refine zE ?_;go_wp2_with (first|(go_at_call 94;refine (HS.out _ (zb fB (zd (Below.refl _ _)))).mono ?_;rintro _ w1 ⟨rfl,hb1⟩)|(go_at_call 165;refine (lwhen_c _ _ _).mono ?_;rintro _ w2 ⟨rfl,rfl⟩)|(go_at_call 210;refine (HN.out _ (zb fB (zb (zd (Below.refl _ _)) hb1))).mono ?_;rintro _ w3 ⟨rfl,hb3⟩)|(go_at_call 163;refine (lfirst_c _ _ _ _ _ (IC.new3 _ _ _ _ _)).mono ?_;rintro _ w4 ⟨rfl,rfl⟩));refine ⟨?_,?_⟩;focus (exact ⟨_,zi (by repeat (first|assumption|exact Below.refl _ _|refine zd ?_|refine zg ?_ _|refine zb ?_ (by assumption)))⟩)))
 refine zA _ _ _ rfl ?_
 dsimp only[List.map]
 go_wp2_with (first|(go_at_call 94;refine (HS.out _ (zb fB (zd (Below.refl _ _)))).mono ?_;rintro _ w1 ⟨rfl,hb1⟩)|(go_at_call 165;refine (lwhen_c _ _ _).mono ?_;rintro _ w2 ⟨rfl,rfl⟩)|(go_at_call 210;refine (HN.out _ (zb fB (zb (zd (Below.refl _ _)) hb1))).mono ?_;rintro _ w3 ⟨rfl,hb3⟩)|(go_at_call 163;refine (lfirst_c _ _ _ _ _ (IC.new3 _ _ _ _ _)).mono ?_;rintro _ w4 ⟨rfl,rfl⟩))
 refine NoPanic.normal ?_
 go_wp2_with fail
 go_ret
 refine ⟨zD HE.out.symm,zb fB ?_⟩
 exact zg (zb (zb (zd (Below.refl _ _)) hb1) hb3) _
theorem lsum_c (a a':Option Addr) (n n' c c':Nat) (l f:List Int) (w:World) (h:IC w a n l) (h':IC w a' n' f) (hn:n≤1000)
  (hl:∀k,k<n→0≤l[k]?.getD 0∧l[k]?.getD 0<(n':Int)) (hf:∀c:Nat,-1000000000≤f[c]?.getD 0∧f[c]?.getD 0≤1000000000) :
  Calls Tryz.prog 211 #[.slice a n c,.slice a' n' c'] w fun e w'=>(∃s:Int,e = .returned (.int .i64 s))∧w=w':=by
 have HF:=za hf
 have HL:=za hl
 clear hf hl
 have hm':=h'.small
 go_enter Tryz.func211,Tryz.ntmps211
 go_wp2
 go_loop [5,7,10] (fun s _ i=>∃(k:Nat) (t:Int),k≤n∧i = .int .i64 k∧s = .int .i64 t ∧ -1000000000*(k:Int)≤t∧t≤1000000000*(k:Int)) (fun _ _ i=>n - (intOf i).toNat)
 case atStart=>exact ⟨0,0,by omega,rfl,rfl,by omega,by omega⟩
 case round =>
  obtain ⟨k,t,hk,rfl,rfl,ht1,ht2⟩:=hrel
  by_cases hlt:k<n
  ·have hki:(k:Int)<(n:Int):=by omega
   obtain ⟨b,off,rfl,hb,hc⟩:=h.2 k hlt
   have hx:=HL.out k hlt
   obtain ⟨x,hxx⟩:∃x:Nat,l[k]?.getD 0=(x:Int):=⟨(l[k]?.getD 0).toNat,by omega⟩
   rw[hxx] at hc hx
   have hxn:x<n':=by omega
   have hxi:=hx.2
   obtain ⟨b2,off2,rfl,hb2,hc2⟩:=h'.2 x hxn
   have hfx:=HF.out x
   generalize f[x]?.getD 0=y at hc2 hfx
   have hkn:(k:Int)≤1000:=by omega
   clear hx hxx
   go_wp2
   go_round
   case rel=>exact ⟨k+1,t+y,by omega,by go_num,by go_num,by omega,by omega⟩
   case measure=>simp[intOf];omega
  ·have hki:¬(k:Int)<(n:Int):=by omega
   go_wp2
   go_ret
   exact ⟨⟨_,rfl⟩,rfl⟩
end
section
open Go Go.RowKit
attribute [local go_sem] zv
attribute [local go_sem] Oper.semAt_some
theorem lsums_c (a:Option Addr) (n c:Nat) (ls:List (List Int)) (cells:Int) (af:Option Addr) (nf cf:Nat) (f:List Int) (w:World) (h:RC w a n ls) (hf:IC w af nf f) (hn:n≤128)
  (hl:∀l,l∈ls→l.length≤1000∧∀x,x∈l→0≤x∧x<(nf:Int)) (hfb:∀c:Nat,-1000000000≤f[c]?.getD 0∧f[c]?.getD 0≤1000000000) :
  Calls Tryz.prog 141 #[.agg #[.int .i64 cells,.slice a n c],.slice af nf cf] w fun e w'=>(∃v,e = .returned v)∧Below w.heap.size w w':=by
 obtain ⟨i0,hi,hz0,hz1,hz2⟩:=info_parts qk
 have H:=za h
 have hll:=za h.len
 have HF:=za hf
 have HL:Hid (∀k,k<n→(ls[k]?.getD []).length≤1000∧∀x,x∈ls[k]?.getD []→0≤x∧x<(nf:Int)):=fun k hk=>hl _ (by rw[List.getElem?_eq_getElem (by rw[h.len];exact hk)];exact List.getElem_mem _)
 have HFB:=za hfb
 clear h hf hl hfb
 go_enter Tryz.func141,Tryz.ntmps141
 go_wp2_with fail
 have fsz:(w.alloc (.cells #[.int .i64 cells,.slice a n c] 24)).heap.size=w.heap.size+1:=by simp only[World.size_alloc]
 have fB:Below w.heap.size w (w.alloc (.cells #[.int .i64 cells,.slice a n c] 24)):=(Below.refl _ _).alloc (Nat.le_refl _) _
 have fq0:(w.alloc (.cells #[.int .i64 cells,.slice a n c] 24)).heap[w.heap.size]?=some (.cells #[.int .i64 cells,.slice a n c] 24 (0,0)):=by have h:=World.alloc_heap_new w (.cells #[.int .i64 cells,.slice a n c] 24);exact h
 generalize (w.alloc (.cells #[.int .i64 cells,.slice a n c] 24))=W0 at fsz fB fq0 ⊢
 have x1:W0.cell? ⟨w.heap.size,1,none⟩=some (.slice a n c):=zc fq0 1
 have xl:=zy fq0
 have fsz':w.heap.size<W0.heap.size:=by omega
 clear fq0 fsz
 go_wp2_with fail
 clear x1 xl
 go_loopw [5,7,11] (fun ov _ iv wr=>∃(k:Nat) (xs:List Value),k≤n∧iv = .int .i64 k∧xs.length=k∧wr.ownsRow W0.heap.size 3 1 ov xs.length xs∧Below W0.heap.size W0 wr) (fun _ _ iv _=>n - (intOf iv).toNat)
 case atStart=>exact ⟨0,[],by omega,rfl,rfl,World.ownsRow_nil _ _ _ _,Below.refl _ _⟩
 case round =>
  obtain ⟨k,xs,hk,rfl,hxl,hown,hbr⟩:=hrel
  obtain ⟨ao,co,e9⟩:=zr hown
  subst e9
  have HXL:=za hxl
  have hxs:xs.length≤128:=by omega
  have hbw:=zb fB hbr
  have hszr:=hbr.size
  clear hxl
  by_cases hlt:k<n
  ·have hki:(k:Int)<(n:Int):=by omega
   obtain ⟨b,off,al,nl,cl,rfl,hb,hc,hil,_⟩:=(H.out.mono hbw).2 k hlt
   have hln:=HL.out k hlt
   generalize ls[k]?.getD []=l at hil hln
   have hnl:=hil.len
   have hlx:∀j,j<nl→0≤l[j]?.getD 0∧l[j]?.getD 0<(nf:Int):=fun j hj=>hln.2 _ (by rw[List.getElem?_eq_getElem (show j<l.length by omega)];exact List.getElem_mem _)
   have HS:=za (lsum_c al af nl nf cl cf l f wr hil (HF.out.mono hbw) (by have:=hln.1;omega) hlx HFB.out)
   clear hil hln hnl hlx
   go_upto_region 5 with fail
   go_wp2_with fail
   refine HS.out.mono ?_
   rintro _ _ ⟨⟨s,rfl⟩,rfl⟩
   clear HS
   go_wp2_with (first|(at_builtin;refine wpList_append_own _ rfl _ _ 25 rfl W0.heap.size 3 i0 (.int .i64 0) 1 8 Tryz.underlying25 hi hz0 hz1 hz2 rfl (by decide) _ _ _ rfl (hown.alloc _) ⟨wr.heap.size,0,none⟩ 1 1 [.int .i64 s] rfl rfl (cell_one_new _ _ _) (by simp[Value.oneCell']) (by unfold maxLen;omega) (by omega) (by simp;omega) ?_))
   intro v5 w5 hown5 hgrow _
   have hs5:=qw hgrow
   have hb5:Below W0.heap.size W0 w5:=hbr.trans (hs5.below hszr (fun k e=>zL hown e))
   have hown6:=hown5
   rw[show xs.length+1=(xs++[Value.int .i64 s]).length from by simp] at hown6
   have HO:=za hown6
   obtain ⟨a5,c5,e5⟩:=zr hown6
   subst e5
   clear hown5 hown6 hgrow hs5 hown
   go_wp2_with fail
   go_roundw
   case rel=>exact ⟨k+1,_,by omega,by go_num,by rw[List.length_append,HXL.out];rfl,HO.out,hb5⟩
   case measure=>simp[intOf];omega
  ·have hki:¬(k:Int)<(n:Int):=by omega
   go_wp2_with fail
   go_ret
   exact ⟨⟨_,rfl⟩,hbw⟩
theorem lSums_c (a:Option Addr) (n c:Nat) (ls:List (List Int)) (cells:Int) (af:Option Addr) (nf cf:Nat) (f:List Int) (w:World) (h:RC w a n ls) (hcap:n≤c) (hf:IC w af nf f) (hn:n≤128) (hs:zX cells ls=0)
  (hl:∀l,l∈ls→l.length≤1000∧∀x,x∈l→0≤x∧x<cells) :
  Calls Tryz.prog 68 #[.agg #[.int .i64 cells,.slice a n c],.slice af nf cf] w fun e w'=>(∃v,e = .returned (.tuple #[v,.int .i64 (fillE cells f)]))∧Below w.heap.size w w':=by
 have HC:=za (fun W (hb:Below w.heap.size w W)=>lcheck_c a n c ls cells af nf cf f W (h.mono hb) hcap (hf.mono hb))
 rw[chk_good hs] at HC
 have HS:Hid (fillE cells f=0→∀W,Below w.heap.size w W→Calls Tryz.prog 141 #[.agg #[.int .i64 cells,.slice a n c],.slice af nf cf] W fun e w'=>(∃v,e = .returned v)∧Below W.heap.size W w'):=fun e W hb=>by
  unfold fillE at e
  have hlen:=hf.len
  by_cases hc:(f.length:Int)=cells
  ·rw[if_neg (fun h=>h hc)] at e
   refine lsums_c a n c ls cells af nf cf f W (h.mono hb) (hf.mono hb) hn (fun l hl2=>⟨(hl l hl2).1,fun x hx=>by have:=(hl l hl2).2 x hx;omega⟩) (fun k=>?_)
   by_cases hk:k<f.length
   ·have:=ki e k hk
    unfold numBad at this
    split at this
    ·cases this
    ·omega
   ·rw[List.getElem?_eq_none (by omega)];decide
  ·rw[if_pos hc] at e;cases e
 clear h hf hl hs
 generalize fillE cells f=er at HC HS ⊢
 go_enter Tryz.func68,Tryz.ntmps68
 go_wp2_with fail
 have fsz:(w.alloc (.cells #[.int .i64 cells,.slice a n c] 24)).heap.size=w.heap.size+1:=by simp only[World.size_alloc]
 have fB:Below w.heap.size w (w.alloc (.cells #[.int .i64 cells,.slice a n c] 24)):=(Below.refl _ _).alloc (Nat.le_refl _) _
 have fq0:(w.alloc (.cells #[.int .i64 cells,.slice a n c] 24)).heap[w.heap.size]?=some (.cells #[.int .i64 cells,.slice a n c] 24 (0,0)):=by have h:=World.alloc_heap_new w (.cells #[.int .i64 cells,.slice a n c] 24);exact h
 generalize (w.alloc (.cells #[.int .i64 cells,.slice a n c] 24))=W0 at fsz fB fq0 ⊢
 have HQ:=za fq0
 have x0:W0.cell? ⟨w.heap.size,0,none⟩=some (.int .i64 cells):=zc fq0 0
 have x1:W0.cell? ⟨w.heap.size,1,none⟩=some (.slice a n c):=zc fq0 1
 have xl:=zy fq0
 clear fq0 fsz
 go_wp2_with fail
 refine (HC.out W0 fB).mono ?_
 rintro _ w1 ⟨rfl,hb1⟩
 have hB1:=zb fB hb1
 clear x0 x1 xl
 have x0:w1.cell? ⟨w.heap.size,0,none⟩=some (.int .i64 cells):=zc (zm hb1 HQ.out) 0
 have x1:w1.cell? ⟨w.heap.size,1,none⟩=some (.slice a n c):=zc (zm hb1 HQ.out) 1
 have xl:=zy (zm hb1 HQ.out)
 by_cases he:er=0
 ·have HS2:=za (HS.out he w1 hB1)
  subst he
  clear HS
  go_wp2_with fail
  refine HS2.out.mono ?_
  rintro _ w2 ⟨⟨v,rfl⟩,hb2⟩
  go_wp2_with fail
  go_ret2
  exact ⟨⟨_,rfl⟩,zb hB1 hb2⟩
 ·have hne:(er != 0)=true:=by simpa using he
  clear he
  go_wp2_with fail
  go_ret2
  exact ⟨⟨_,rfl⟩,hB1⟩
theorem lfill_c (a:Option Addr) (n c:Nat) (f:List Int) (w:World) (h:IC w a n f) (h0:1≤n) (h1:n≤256) :
  Calls Tryz.prog 142 #[.slice a n c] w fun e w'=>e = .returned (.int .i64 (numQ f))∧Below w.heap.size w w':=by
 have HN:=za (fun W (hb:Below w.heap.size w W)=>lnum_c a n c f W (h.mono hb))
 clear h
 have HE:Hid (zz [zn false 12,zn false 5,numQ f]=numQ f):=by
  unfold Hid
  by_cases h:numQ f=0
  ·rw[h];rfl
  ·simp[zz,zn,h]
 generalize numQ f=e3 at HN HE ⊢
 have d1:((n:Int)==0)=false:=by simp;omega
 have d2:decide ((256:Int)<(n:Int))=false:=decide_eq_false (by omega)
 go_enter Tryz.func142,Tryz.ntmps142
 go_wp2_with (first|(go_at_call 165;refine (lwhen_c _ _ _).mono ?_;rintro _ w2 ⟨rfl,rfl⟩)|(go_at_call 210;refine (HN.out _ (Below.refl _ _)).mono ?_;rintro _ w3 ⟨rfl,hb3⟩)|(go_at_call 163;refine (lfirst_c _ _ _ _ _ (IC.new3 _ _ _ _ _)).mono ?_;rintro _ w4 ⟨rfl,rfl⟩))
 go_ret
 exact ⟨zD (by first|exact HE.out|(rw[← HE.out];simp_all)),zg hb3 _⟩
end
end Go.Proofs.YtaadpihbjhachaaGreat
