/- Texts B9 to B10 of this proof, in one file. -/
import Derived.Test.YtaadpihbjhachaaGreatW18
import Derived.Test.YtaadpihbjhachaaGreatW19
import Derived.Test.YtaadpihbjhachaaGreatW20
import Derived.Test.YtaadpihbjhachaaGreatW21
namespace Go.Proofs.YtaadpihbjhachaaGreat
set_option maxRecDepth 100000
set_option maxHeartbeats 16000000
section
open Go Go.RowKit
attribute [local go_sem] over_cell
attribute [local go_sem] Oper.semAt_some
theorem xsum_c (a a':Option Addr) (n n' c c':Nat) (l f:List Int) (w:World) (h:IC w a n l) (h':IC w a' n' f) (hn:n≤1000)
  (hl:∀k,k<n→0≤l[k]?.getD 0∧l[k]?.getD 0<(n':Int)) (hf:∀c:Nat,0≤f[c]?.getD 0∧f[c]?.getD 0≤1000000000) :
  Calls Tryz.prog 211 #[.slice a n c,.slice a' n' c'] w fun e w'=>e = .returned (.int .i64 (sumAt l f))∧w=w':=by
 have HF:=Lib.hid hf
 have HL:=Lib.hid hl
 have HE:Hid (sumAt l f=sumTo l f n):=by unfold Hid sumTo;rw[← h.len,List.take_length]
 have HZ:Hid (sumTo l f 0=0):=rfl
 clear hf hl
 have hm':=h'.small
 generalize sumAt l f=sa at HE ⊢
 go_enter Tryz.func211,Tryz.ntmps211
 go_wp2
 go_loop [5,7,10] (fun s _ i=>∃k:Nat,k≤n∧i = .int .i64 k∧s = .int .i64 (sumTo l f k)) (fun _ _ i=>n - (intOf i).toNat)
 case atStart=>exact ⟨0,by omega,rfl,by rw[HZ.out]⟩
 case round =>
  obtain ⟨k,hk,rfl,rfl⟩:=hrel
  have hb:=sumTo_bd HF.out k (by rw[h.len];exact hk)
  have hb2:sumTo l f k≤1000000000000:=by
   have:(k:Int)*1000000000≤1000*1000000000:=Int.mul_le_mul_of_nonneg_right (by omega) (by omega)
   omega
  have hb1:=hb.1
  clear hb
  by_cases hlt:k<n
  ·obtain ⟨b,off,rfl,hbb,hc⟩:=h.2 k hlt
   have hr:=HL.out k hlt
   obtain ⟨x,hx⟩:∃x:Nat,l[k]?.getD 0=(x:Int):=⟨(l[k]?.getD 0).toNat,by omega⟩
   rw[hx] at hr hc
   have hS:=Lib.hid (sumTo_succ (f:=f) (show k<l.length by rw[h.len];exact hlt))
   rw[hx] at hS
   clear hx
   obtain ⟨b',off',rfl,hbb',hc'⟩:=h'.2 x (by omega)
   have hfx:=HF.out x
   have hr2:=hr.2
   have hr3:x<n':=by omega
   rw[Int.toNat_natCast] at hS
   generalize f[x]?.getD 0=y at hc' hfx hS
   generalize sumTo l f k=t at hb1 hb2 hS ⊢
   go_wp2
   go_round
   case rel=>exact ⟨k+1,by omega,by go_num,by rw[hS.out]⟩
   case measure=>simp[intOf];omega
  ·have e:k=n:=by omega
   subst e
   go_wp2
   go_ret
   exact ⟨ret_int HE.out.symm,rfl⟩
theorem xsums_c (a:Option Addr) (n c:Nat) (ls:List (List Int)) (cells:Int) (af:Option Addr) (nf cf:Nat) (f:List Int) (w:World) (h:RC w a n ls) (hf:IC w af nf f) (hn:n≤128)
  (hl:∀l,l∈ls→l.length≤1000∧∀x,x∈l→0≤x∧x<(nf:Int)) (hfb:∀c:Nat,0≤f[c]?.getD 0∧f[c]?.getD 0≤1000000000) :
  Calls Tryz.prog 141 #[.agg #[.int .i64 cells,.slice a n c],.slice af nf cf] w fun e w'=>∃v,e = .returned v∧w'.ownsRow w.heap.size 3 1 v n ((ls.map fun l=>sumAt l f).map (Value.int .i64))∧Below w.heap.size w w':=by
 obtain ⟨i0,hi,hz0,hz1,hz2⟩:=info_parts infoInt
 have H:=Lib.hid h
 have hll:=Lib.hid h.len
 have HF:=Lib.hid hf
 have HL:Hid (∀k,k<n→(ls[k]?.getD []).length≤1000∧∀x,x∈ls[k]?.getD []→0≤x∧x<(nf:Int)):=fun k hk=>hl _ (by rw[List.getElem?_eq_getElem (by rw[h.len];exact hk)];exact List.getElem_mem _)
 have HFB:=Lib.hid hfb
 have HST:Hid (∀k,k<n→(((ls.take (k+1)).map fun l=>sumAt l f).map (Value.int .i64))=(((ls.take k).map fun l=>sumAt l f).map (Value.int .i64))++[.int .i64 (sumAt (ls[k]?.getD []) f)]):=fun k hk=>by
  rw[take_snoc ls [] k (by rw[h.len];exact hk),List.map_append,List.map_append];rfl
 have HTL:Hid (∀k,k≤n→(((ls.take k).map fun l=>sumAt l f).map (Value.int .i64)).length=k):=fun k hk=>by rw[List.length_map,List.length_map,List.length_take,h.len];omega
 have HEND:Hid (((ls.take n).map fun l=>sumAt l f).map (Value.int .i64)=(ls.map fun l=>sumAt l f).map (Value.int .i64)):=by unfold Hid;rw[← h.len,List.take_length]
 have HZ:Hid (((ls.take 0).map fun l=>sumAt l f).map (Value.int .i64)=[]):=rfl
 clear h hf hl hfb
 generalize (ls.map fun l=>sumAt l f).map (Value.int .i64)=R at HEND ⊢
 generalize hTT:(fun k=>((ls.take k).map fun l=>sumAt l f).map (Value.int .i64))=TT
 have HTT:Hid (∀k,((ls.take k).map fun l=>sumAt l f).map (Value.int .i64)=TT k):=fun k=>by rw[← hTT]
 simp only[HTT.out] at HST HTL HEND HZ
 clear HTT hTT
 go_enter Tryz.func141,Tryz.ntmps141
 go_wp2_with fail
 have fsz:(w.alloc (.cells #[.int .i64 cells,.slice a n c] 24)).heap.size=w.heap.size+1:=by simp only[World.size_alloc]
 have fB:Below w.heap.size w (w.alloc (.cells #[.int .i64 cells,.slice a n c] 24)):=(Below.refl _ _).alloc (Nat.le_refl _) _
 have fq0:(w.alloc (.cells #[.int .i64 cells,.slice a n c] 24)).heap[w.heap.size]?=some (.cells #[.int .i64 cells,.slice a n c] 24 (0,0)):=by have h:=World.alloc_heap_new w (.cells #[.int .i64 cells,.slice a n c] 24);exact h
 generalize (w.alloc (.cells #[.int .i64 cells,.slice a n c] 24))=W0 at fsz fB fq0 ⊢
 have x1:W0.cell? ⟨w.heap.size,1,none⟩=some (.slice a n c):=q_cell fq0 1
 have xl:=q_lt fq0
 have fsz':w.heap.size<W0.heap.size:=by omega
 clear fq0 fsz
 go_wp2_with fail
 clear x1 xl
 go_loopw [5,7,11] (fun ov _ iv wr=>∃(k:Nat),k≤n∧iv = .int .i64 k∧wr.ownsRow W0.heap.size 3 1 ov k (TT k)∧Below W0.heap.size W0 wr) (fun _ _ iv _=>n - (intOf iv).toNat)
 case atStart=>exact ⟨0,by omega,rfl,by rw[HZ.out];exact World.ownsRow_nil _ _ _ _,Below.refl _ _⟩
 case round =>
  obtain ⟨k,hk,rfl,hown,hbr⟩:=hrel
  obtain ⟨ao,co,e9⟩:=owns_shape hown
  subst e9
  have hbw:=keep_trans fB hbr
  have hszr:=hbr.size
  by_cases hlt:k<n
  ·have hki:(k:Int)<(n:Int):=by omega
   obtain ⟨b,off,al,nl,cl,rfl,hb,hc,hil,_⟩:=(H.out.mono hbw).2 k hlt
   have hln:=HL.out k hlt
   have HSk:=Lib.hid (HST.out k hlt)
   generalize ls[k]?.getD []=l at hil hln HSk
   have hnl:=hil.len
   have hlx:∀j,j<nl→0≤l[j]?.getD 0∧l[j]?.getD 0<(nf:Int):=fun j hj=>hln.2 _ (by rw[List.getElem?_eq_getElem (show j<l.length by omega)];exact List.getElem_mem _)
   have HS:=Lib.hid (xsum_c al af nl nf cl cf l f wr hil (HF.out.mono hbw) (by have:=hln.1;omega) hlx HFB.out)
   clear hil hln hnl hlx
   generalize sumAt l f=s at HS HSk
   have hkk:k≤128:=by omega
   go_upto_region 5 with fail
   go_wp2_with fail
   refine HS.out.mono ?_
   rintro _ _ ⟨rfl,rfl⟩
   clear HS
   go_wp2_with (first|(at_builtin;refine wpList_append_own _ rfl _ _ 25 rfl W0.heap.size 3 i0 (.int .i64 0) 1 8 Tryz.underlying25 hi hz0 hz1 hz2 rfl (by decide) _ _ _ rfl (hown.alloc _) ⟨wr.heap.size,0,none⟩ 1 1 [.int .i64 s] rfl rfl (cell_one_new _ _ _) (by simp[Value.oneCell']) (by unfold maxLen;omega) (by omega) (by simp;omega) ?_))
   intro v5 w5 hown5 hgrow _
   have hs5:=grow_stays hgrow
   have hb5:Below W0.heap.size W0 w5:=hbr.trans (hs5.below hszr (fun k e=>owns_ge hown e))
   have hown6:=hown5
   rw[← HSk.out] at hown6
   have HO:=Lib.hid hown6
   obtain ⟨a5,c5,e5⟩:=owns_shape hown6
   subst e5
   clear hown5 hown6 hgrow hs5 hown
   go_wp2_with fail
   go_roundw
   case rel=>exact ⟨k+1,by omega,by go_num,HO.out,hb5⟩
   case measure=>simp[intOf];omega
  ·have hki:¬(k:Int)<(n:Int):=by omega
   have e:k=n:=by omega
   subst e
   rw[HEND.out] at hown
   have HO:=Lib.hid (owns_base hown (by omega:w.heap.size≤W0.heap.size))
   clear hown
   go_wp2_with fail
   go_ret
   exact ⟨_,rfl,HO.out,hbw⟩
theorem differs1_c (x y:Int) (b b2 o2 n2 c2:Nat) (w:World) (_hb:b<w.heap.size) (h1:w.cell? ⟨b,0,none⟩=some (.slice (some ⟨b2,o2,none⟩) n2 c2)) (h0:0<n2) (hs:n2≤17592186044416) (_hb2:b2<w.heap.size) (h2:w.cell? ⟨b2,o2,none⟩=some (.int .i64 y)) :
  Calls Tryz.prog 214 #[.int .i64 x,.pointer (some ⟨b,0,none⟩)] w fun e w'=>e = .returned (.bool (x != y))∧w=w':=by
 have h0i:(0:Int)<(n2:Int):=by omega
 go_enter Tryz.func214,Tryz.ntmps214
 go_wp2
 go_ret
 exact ⟨rfl,rfl⟩
theorem differs1_fn:∀(args:Array Value) (w:World),Sem.run Tryz.prog (callFunc 214 args) w = .ok (.enter 214 args) w:=by
 intro args w;kernel_rfl
def magicB (ls:List (List Int)) (f:List Int):Bool:=ls.all fun l=>sumAt l f==sumAt (ls[0]?.getD []) f
def difI (ls:List (List Int)) (f:List Int):Int:=idxP (fun k=>(ls.map fun l=>sumAt l f)[k]?.getD 0 != (ls.map fun l=>sumAt l f)[0]?.getD 0) ls.length
theorem dif_magic (ls:List (List Int)) (f:List Int) (h:magicB ls f=true):difI ls f<0:=by
 have:difI ls f = -1:=by
  unfold difI
  refine idxP_none fun k hk=>?_
  unfold magicB at h
  rw[List.all_eq_true] at h
  have h1:=h (ls[k]?.getD []) (by rw[List.getElem?_eq_getElem hk];exact List.getElem_mem hk)
  simp only[beq_iff_eq] at h1
  rw[List.getElem?_map,List.getElem?_map,List.getElem?_eq_getElem hk,List.getElem?_eq_getElem (show 0<ls.length by omega)]
  rw[List.getElem?_eq_getElem hk,List.getElem?_eq_getElem (show 0<ls.length by omega)] at h1
  simpa using h1
 omega
theorem differs_c (a:Option Addr) (n c:Nat) (ls:List (List Int)) (cells:Int) (af:Option Addr) (nf cf:Nat) (f:List Int) (w:World) (h:RC w a n ls) (hf:IC w af nf f) (hn:n≤128)
  (hl:∀l,l∈ls→l.length≤1000∧∀x,x∈l→0≤x∧x<(nf:Int)) (hfb:∀c:Nat,0≤f[c]?.getD 0∧f[c]?.getD 0≤1000000000) :
  Calls Tryz.prog 155 #[.agg #[.int .i64 cells,.slice a n c],.slice af nf cf] w fun e w'=>e = .returned (.int .i64 (difI ls f))∧Below w.heap.size w w':=by
 have hll:=h.len
 have HS:=Lib.hid (fun W (hb:Below w.heap.size w W)=>xsums_c a n c ls cells af nf cf f W (h.mono hb) (hf.mono hb) hn hl hfb)
 have HSL:Hid ((ls.map fun l=>sumAt l f).length=n):=by unfold Hid;rw[List.length_map,hll]
 have HE:Hid (difI ls f=idxP (fun k=>(ls.map fun l=>sumAt l f)[k]?.getD 0 != (ls.map fun l=>sumAt l f)[0]?.getD 0) n):=by unfold Hid difI;rw[hll]
 clear h hf hl hfb hll
 generalize difI ls f=df at HE ⊢
 generalize (ls.map fun l=>sumAt l f)=S at HS HSL HE
 go_enter Tryz.func155,Tryz.ntmps155
 go_wp2_with fail
 have fsz:(w.alloc (.cells #[.int .i64 cells,.slice a n c] 24)).heap.size=w.heap.size+1:=by simp only[World.size_alloc]
 have fB:Below w.heap.size w (w.alloc (.cells #[.int .i64 cells,.slice a n c] 24)):=(Below.refl _ _).alloc (Nat.le_refl _) _
 have fq0:(w.alloc (.cells #[.int .i64 cells,.slice a n c] 24)).heap[w.heap.size]?=some (.cells #[.int .i64 cells,.slice a n c] 24 (0,0)):=by have h:=World.alloc_heap_new w (.cells #[.int .i64 cells,.slice a n c] 24);exact h
 generalize (w.alloc (.cells #[.int .i64 cells,.slice a n c] 24))=W0 at fsz fB fq0 ⊢
 have x0:W0.cell? ⟨w.heap.size,0,none⟩=some (.int .i64 cells):=q_cell fq0 0
 have x1:W0.cell? ⟨w.heap.size,1,none⟩=some (.slice a n c):=q_cell fq0 1
 have xl:=q_lt fq0
 clear fq0 fsz
 go_wp2_with fail
 refine (HS.out _ fB).mono ?_
 rintro _ w1 ⟨v,rfl,hown,hb1⟩
 obtain ⟨av,cv,rfl⟩:=owns_shape hown
 have hic:IC w1 av n S:=by
  have h1:w1.ownsRow W0.heap.size 3 1 (.slice av S.length cv) S.length (S.map (Value.int .i64)):=by rw[HSL.out];exact hown
  have h2:=(IC.of_owns h1 (by rw[HSL.out];omega)).1
  rw[HSL.out] at h2
  exact h2
 clear hown x0 x1 xl HS
 have HIC:=Lib.hid hic
 clear hic
 go_wp2_with fail
 have ksz:(w1.alloc (.cells #[.slice av n cv] 25)).heap.size=w1.heap.size+1:=by simp only[World.size_alloc]
 have kB:Below w1.heap.size w1 (w1.alloc (.cells #[.slice av n cv] 25)):=(Below.refl _ _).alloc (Nat.le_refl _) _
 have kq0:(w1.alloc (.cells #[.slice av n cv] 25)).heap[w1.heap.size]?=some (.cells #[.slice av n cv] 25 (0,0)):=by have h:=World.alloc_heap_new w1 (.cells #[.slice av n cv] 25);exact h
 generalize (w1.alloc (.cells #[.slice av n cv] 25))=W2 at ksz kB kq0 ⊢
 have y0:W2.cell? ⟨w1.heap.size,0,none⟩=some (.slice av n cv):=q_cell kq0 0
 have yl:=q_lt kq0
 have HIX:Hid (Calls Tryz.prog 158 #[.slice av n cv,.func (.func 214) #[] #[.pointer (some ⟨w1.heap.size,0,none⟩)]] W2 fun e w'=>e = .returned (.int .i64 (idxP (fun k=>S[k]?.getD 0 != S[0]?.getD 0) n))∧Below W2.heap.size W2 w') :=
  indexFuncI_c av n cv S 214 #[.pointer (some ⟨w1.heap.size,0,none⟩)] _ W2 (HIC.out.mono kB) differs1_fn (fun k hk W hb=>by
   obtain ⟨b2,o2,e2,hb2,hc2⟩:=(HIC.out.mono (keep_trans kB hb)).2 0 (by omega)
   have hq:=keepq hb kq0
   have h1:=q_cell hq 0
   simp only[Nat.add_zero] at hc2
   subst e2
   refine (differs1_c _ _ w1.heap.size b2 o2 n cv W (q_lt hq) h1 (by omega) (by omega) hb2 hc2).mono ?_
   rintro _ w3 ⟨rfl,rfl⟩
   exact ⟨rfl,Below.refl _ _⟩)
 rw[← HE.out] at HIX
 clear kq0 ksz HE
 go_wp2_with (first|(go_at_call 158;refine HIX.out.mono ?_;rintro _ w3 ⟨rfl,hb3⟩))
 go_ret
 exact ⟨rfl,keep_trans fB (keep_trans hb1 (keep_trans kB hb3))⟩
theorem magic_c (a:Option Addr) (n c:Nat) (ls:List (List Int)) (cells:Int) (af:Option Addr) (nf cf:Nat) (f:List Int) (w:World) (h:RC w a n ls) (hcap:n≤c) (hf:IC w af nf f) (hn:n≤128) (hck:chkE cells ls f=0)
  (hl:∀l,l∈ls→l.length≤1000∧∀x,x∈l→0≤x∧x<(nf:Int)) (hfb:∀c:Nat,0≤f[c]?.getD 0∧f[c]?.getD 0≤1000000000) (hmg:magicB ls f=true) :
  Calls Tryz.prog 82 #[.agg #[.int .i64 cells,.slice a n c],.slice af nf cf] w fun e w'=>e = .returned (.tuple #[.bool true,.int .i64 0])∧Below w.heap.size w w':=by
 have HC:=Lib.hid (fun W (hb:Below w.heap.size w W)=>lcheck_c a n c ls cells af nf cf f W (h.mono hb) hcap (hf.mono hb))
 rw[hck] at HC
 have HD:=Lib.hid (fun W (hb:Below w.heap.size w W)=>differs_c a n c ls cells af nf cf f W (h.mono hb) (hf.mono hb) hn hl hfb)
 have hneg:=dif_magic ls f hmg
 clear h hf hl hfb hmg
 generalize difI ls f=df at HD hneg
 have hdf:decide (df<0)=true:=decide_eq_true hneg
 go_enter Tryz.func82,Tryz.ntmps82
 go_wp2_with fail
 have fsz:(w.alloc (.cells #[.int .i64 cells,.slice a n c] 24)).heap.size=w.heap.size+1:=by simp only[World.size_alloc]
 have fB:Below w.heap.size w (w.alloc (.cells #[.int .i64 cells,.slice a n c] 24)):=(Below.refl _ _).alloc (Nat.le_refl _) _
 have fq0:(w.alloc (.cells #[.int .i64 cells,.slice a n c] 24)).heap[w.heap.size]?=some (.cells #[.int .i64 cells,.slice a n c] 24 (0,0)):=by have h:=World.alloc_heap_new w (.cells #[.int .i64 cells,.slice a n c] 24);exact h
 generalize (w.alloc (.cells #[.int .i64 cells,.slice a n c] 24))=W0 at fsz fB fq0 ⊢
 have HX:=Lib.hid (fun W (hb:Below W0.heap.size W0 W)=>(And.intro (q_cell (keepq hb fq0) 0) (And.intro (q_cell (keepq hb fq0) 1) (q_lt (keepq hb fq0))):W.cell? ⟨w.heap.size,0,none⟩=some (.int .i64 cells)∧W.cell? ⟨w.heap.size,1,none⟩=some (.slice a n c)∧w.heap.size<W.heap.size))
 clear fq0 fsz
 obtain ⟨x0,x1,xl⟩:=HX.out _ (Below.refl _ _)
 go_wp2_with fail
 refine (HC.out _ fB).mono ?_
 rintro _ w1 ⟨rfl,hb1⟩
 clear x0 x1 xl
 obtain ⟨x0,x1,xl⟩:=HX.out _ hb1
 go_wp2_with fail
 refine (HD.out _ (keep_trans fB hb1)).mono ?_
 rintro _ w2 ⟨rfl,hb2⟩
 go_wp2_with fail
 go_ret2
 exact ⟨by first|rfl|rw[hdf],keep_trans fB (keep_trans hb1 hb2)⟩
end
section
open Go Go.RowKit Go.Shelf Go.Sort
attribute [local go_sem] over_cell
attribute [local go_sem] Oper.semAt_some
theorem isort_c (L:Nat) (v:Value) (zs:List Int) (w:World) (h:w.ownsRow L 3 1 v zs.length (zs.map (Value.int .i64))) (h1:1≤zs.length) (hr:zs.length≤100000) :
  Calls Tryz.prog 58 #[v] w fun e w'=>e = .returned (.tuple #[])∧w'.ownsRow L 3 1 v zs.length ((srt zs).map (Value.int .i64))∧Stays (fun k=>v.ownBlock=some k) w w':=by
 rcases h.2 with ⟨_,hz⟩|⟨gb,cap1,cur,rfl,hbase,hgb,r1,r2,r3,r4⟩
 ·omega
 have hH:Holds (Value.int .i64) w gb 0 zs.toArray:=holds_of_block_i hgb (by simpa using r4)
 have hgl:gb<w.heap.size:=(Array.getElem?_eq_some_iff.1 hgb).1
 refine (AnyM.slices_Sort_int sortA gb 0 cap1 zs w hH hgl (by omega)).mono ?_
 rintro _ w' ⟨rfl,nn,os,rfl⟩
 exact ⟨rfl,ownsRow_sorted_i (by simp) hbase hgb r1 r2 r3,Stays.grown (grownBy_sorted_i _) (fun k e=>by cases e;rfl)⟩
theorem number_c (T0 T1 T2:Value) (ag:Option Addr) (n cg:Nat) (ap:Option Addr) (np cap:Nat) (cp:Bool) (x:Int) (w:World) (hn:n≤256) (hx:0≤x∧x≤(n:Int)) :
  Calls Tryz.prog 59 #[.agg #[T0,T1,T2,.slice ag n cg],.int .i64 x,.agg #[.slice ap np cap,.bool cp]] w fun e w'=>e = .returned (.int .i64 (cgN cp (n:Int) x))∧Below w.heap.size w w':=by
 cases cp with
 | false =>
  have HE:Hid (cgN false (n:Int) x=x):=rfl
  go_enter Tryz.func59,Tryz.ntmps59
  go_upto_region 1 with fail
  have fsz:((w.alloc (.cells #[T0,T1,T2,.slice ag n cg] 27)).alloc (.cells #[.slice ap np cap,.bool false] 29)).heap.size=w.heap.size+2:=by simp only[World.size_alloc] <;> omega
  have fB:Below w.heap.size w ((w.alloc (.cells #[T0,T1,T2,.slice ag n cg] 27)).alloc (.cells #[.slice ap np cap,.bool false] 29)):=((Below.refl _ _).alloc (Nat.le_refl _) _).alloc (by simp only[World.size_alloc];omega) _
  have fq0:((w.alloc (.cells #[T0,T1,T2,.slice ag n cg] 27)).alloc (.cells #[.slice ap np cap,.bool false] 29)).heap[w.heap.size]?=some (.cells #[T0,T1,T2,.slice ag n cg] 27 (0,0)):=by have h:=World.alloc_heap_new w (.cells #[T0,T1,T2,.slice ag n cg] 27);exact (Below.heap_alloc _ _ _ (by simp only[World.size_alloc];omega)).trans (h)
  have fq1:((w.alloc (.cells #[T0,T1,T2,.slice ag n cg] 27)).alloc (.cells #[.slice ap np cap,.bool false] 29)).heap[w.heap.size+1]?=some (.cells #[.slice ap np cap,.bool false] 29 (0,0)):=by have h:=World.alloc_heap_new (w.alloc (.cells #[T0,T1,T2,.slice ag n cg] 27)) (.cells #[.slice ap np cap,.bool false] 29);simp only[World.size_alloc] at h;exact h
  generalize ((w.alloc (.cells #[T0,T1,T2,.slice ag n cg] 27)).alloc (.cells #[.slice ap np cap,.bool false] 29))=W0 at fsz fB fq0 fq1 ⊢
  have x3:W0.cell? ⟨w.heap.size,3,none⟩=some (.slice ag n cg):=q_cell fq0 3
  have y1:W0.cell? ⟨w.heap.size+1,1,none⟩=some (.bool false):=q_cell fq1 1
  have xl:=q_lt fq0
  have yl:=q_lt fq1
  clear fq0 fq1 fsz
  go_wp2
  go_ret
  exact ⟨by rw[HE.out];rfl,fB⟩
 | true =>
  by_cases h0:0<x
  ·have hd:decide (0<x)=true:=decide_eq_true h0
   have HE:Hid (cgN true (n:Int) x=(n:Int)+1 - x):=by unfold Hid cgN;rw[hd];rfl
   go_enter Tryz.func59,Tryz.ntmps59
   go_upto_region 1 with fail
   have fsz:((w.alloc (.cells #[T0,T1,T2,.slice ag n cg] 27)).alloc (.cells #[.slice ap np cap,.bool true] 29)).heap.size=w.heap.size+2:=by simp only[World.size_alloc] <;> omega
   have fB:Below w.heap.size w ((w.alloc (.cells #[T0,T1,T2,.slice ag n cg] 27)).alloc (.cells #[.slice ap np cap,.bool true] 29)):=((Below.refl _ _).alloc (Nat.le_refl _) _).alloc (by simp only[World.size_alloc];omega) _
   have fq0:((w.alloc (.cells #[T0,T1,T2,.slice ag n cg] 27)).alloc (.cells #[.slice ap np cap,.bool true] 29)).heap[w.heap.size]?=some (.cells #[T0,T1,T2,.slice ag n cg] 27 (0,0)):=by have h:=World.alloc_heap_new w (.cells #[T0,T1,T2,.slice ag n cg] 27);exact (Below.heap_alloc _ _ _ (by simp only[World.size_alloc];omega)).trans (h)
   have fq1:((w.alloc (.cells #[T0,T1,T2,.slice ag n cg] 27)).alloc (.cells #[.slice ap np cap,.bool true] 29)).heap[w.heap.size+1]?=some (.cells #[.slice ap np cap,.bool true] 29 (0,0)):=by have h:=World.alloc_heap_new (w.alloc (.cells #[T0,T1,T2,.slice ag n cg] 27)) (.cells #[.slice ap np cap,.bool true] 29);simp only[World.size_alloc] at h;exact h
   generalize ((w.alloc (.cells #[T0,T1,T2,.slice ag n cg] 27)).alloc (.cells #[.slice ap np cap,.bool true] 29))=W0 at fsz fB fq0 fq1 ⊢
   have x3:W0.cell? ⟨w.heap.size,3,none⟩=some (.slice ag n cg):=q_cell fq0 3
   have y1:W0.cell? ⟨w.heap.size+1,1,none⟩=some (.bool true):=q_cell fq1 1
   have xl:=q_lt fq0
   have yl:=q_lt fq1
   clear fq0 fq1 fsz
   go_wp2
   go_ret
   exact ⟨by rw[HE.out];rfl,fB⟩
  ·have hd:decide (0<x)=false:=decide_eq_false h0
   have HE:Hid (cgN true (n:Int) x=x):=by unfold Hid cgN;rw[hd];rfl
   go_enter Tryz.func59,Tryz.ntmps59
   go_upto_region 1 with fail
   have fsz:((w.alloc (.cells #[T0,T1,T2,.slice ag n cg] 27)).alloc (.cells #[.slice ap np cap,.bool true] 29)).heap.size=w.heap.size+2:=by simp only[World.size_alloc] <;> omega
   have fB:Below w.heap.size w ((w.alloc (.cells #[T0,T1,T2,.slice ag n cg] 27)).alloc (.cells #[.slice ap np cap,.bool true] 29)):=((Below.refl _ _).alloc (Nat.le_refl _) _).alloc (by simp only[World.size_alloc];omega) _
   have fq0:((w.alloc (.cells #[T0,T1,T2,.slice ag n cg] 27)).alloc (.cells #[.slice ap np cap,.bool true] 29)).heap[w.heap.size]?=some (.cells #[T0,T1,T2,.slice ag n cg] 27 (0,0)):=by have h:=World.alloc_heap_new w (.cells #[T0,T1,T2,.slice ag n cg] 27);exact (Below.heap_alloc _ _ _ (by simp only[World.size_alloc];omega)).trans (h)
   have fq1:((w.alloc (.cells #[T0,T1,T2,.slice ag n cg] 27)).alloc (.cells #[.slice ap np cap,.bool true] 29)).heap[w.heap.size+1]?=some (.cells #[.slice ap np cap,.bool true] 29 (0,0)):=by have h:=World.alloc_heap_new (w.alloc (.cells #[T0,T1,T2,.slice ag n cg] 27)) (.cells #[.slice ap np cap,.bool true] 29);simp only[World.size_alloc] at h;exact h
   generalize ((w.alloc (.cells #[T0,T1,T2,.slice ag n cg] 27)).alloc (.cells #[.slice ap np cap,.bool true] 29))=W0 at fsz fB fq0 fq1 ⊢
   have x3:W0.cell? ⟨w.heap.size,3,none⟩=some (.slice ag n cg):=q_cell fq0 3
   have y1:W0.cell? ⟨w.heap.size+1,1,none⟩=some (.bool true):=q_cell fq1 1
   have xl:=q_lt fq0
   have yl:=q_lt fq1
   clear fq0 fq1 fsz
   go_wp2
   go_ret
   exact ⟨by rw[HE.out];rfl,fB⟩
theorem len1_c (a1:Option Addr) (n1 c1 b b2 o2 n2 c2:Nat) (a3:Option Addr) (n3 c3:Nat) (w:World) (_hb:b<w.heap.size) (h1:w.cell? ⟨b,0,none⟩=some (.slice (some ⟨b2,o2,none⟩) n2 c2)) (h0:0<n2) (hs:n2≤17592186044416) (_hb2:b2<w.heap.size) (h2:w.cell? ⟨b2,o2,none⟩=some (.slice a3 n3 c3)) :
  Calls Tryz.prog 138 #[.slice a1 n1 c1,.pointer (some ⟨b,0,none⟩)] w fun e w'=>e = .returned (.bool ((n1:Int) != (n3:Int)))∧w=w':=by
 have h0i:(0:Int)<(n2:Int):=by omega
 go_enter Tryz.func138,Tryz.ntmps138
 go_wp2
 go_ret
 exact ⟨rfl,rfl⟩
theorem len1_fn:∀(args:Array Value) (w:World),Sem.run Tryz.prog (callFunc 138 args) w = .ok (.enter 138 args) w:=by
 intro args w;kernel_rfl
def lenV (ls:List (List Int)):Int:=((ls[0]?.getD []).length:Int)
def levelB (ls:List (List Int)):Bool:=decide (0<ls.length)&&!anyP (fun k=>((ls[k]?.getD []).length:Int) != ((ls[0]?.getD []).length:Int)) ls.length
theorem level_len {ls:List (List Int)} (h:levelB ls=true):∀l,l∈ls→(l.length:Int)=lenV ls:=fun l hl=>by
 unfold levelB at h
 rw[Bool.and_eq_true,Bool.not_eq_true'] at h
 have h2:=h.2
 unfold anyP at h2
 rw[List.any_eq_false] at h2
 obtain ⟨k,hk,e⟩:=List.getElem_of_mem hl
 have h3:=h2 k (by simpa using hk)
 rw[List.getElem?_eq_getElem hk,Option.getD_some,e] at h3
 unfold lenV
 simpa using h3
theorem length_c (a:Option Addr) (n c:Nat) (ls:List (List Int)) (cells sum:Int) (a':Option Addr) (n' c':Nat) (w:World) (h:RC w a n ls) :
  Calls Tryz.prog 60 #[.agg #[.int .i64 cells,.slice a n c,.int .i64 sum,.slice a' n' c']] w fun e w'=>e = .returned (.tuple #[.int .i64 (lenV ls),.bool (levelB ls)])∧Below w.heap.size w w':=by
 have hm:=h.small
 have hl:=h.len
 have H:=Lib.hid h
 by_cases h0:n=0
 ·have HV:Hid (lenV ls=0):=by unfold Hid lenV;rw[List.getElem?_eq_none (by omega)];rfl
  have HB:Hid (levelB ls=false):=by unfold Hid levelB;rw[decide_eq_false (by omega)];rfl
  subst h0
  clear h hl
  go_enter Tryz.func60,Tryz.ntmps60
  go_upto_region 2 with fail
  have fsz:((w.alloc (.cells #[.int .i64 cells,.slice a 0 c,.int .i64 sum,.slice a' n' c'] 27)).alloc (.cells #[.slice a 0 c] 22)).heap.size=w.heap.size+2:=by simp only[World.size_alloc] <;> omega
  have fB:Below w.heap.size w ((w.alloc (.cells #[.int .i64 cells,.slice a 0 c,.int .i64 sum,.slice a' n' c'] 27)).alloc (.cells #[.slice a 0 c] 22)):=((Below.refl _ _).alloc (Nat.le_refl _) _).alloc (by simp only[World.size_alloc];omega) _
  have fq0:((w.alloc (.cells #[.int .i64 cells,.slice a 0 c,.int .i64 sum,.slice a' n' c'] 27)).alloc (.cells #[.slice a 0 c] 22)).heap[w.heap.size]?=some (.cells #[.int .i64 cells,.slice a 0 c,.int .i64 sum,.slice a' n' c'] 27 (0,0)):=by have h:=World.alloc_heap_new w (.cells #[.int .i64 cells,.slice a 0 c,.int .i64 sum,.slice a' n' c'] 27);exact (Below.heap_alloc _ _ _ (by simp only[World.size_alloc];omega)).trans (h)
  have fq1:((w.alloc (.cells #[.int .i64 cells,.slice a 0 c,.int .i64 sum,.slice a' n' c'] 27)).alloc (.cells #[.slice a 0 c] 22)).heap[w.heap.size+1]?=some (.cells #[.slice a 0 c] 22 (0,0)):=by have h:=World.alloc_heap_new (w.alloc (.cells #[.int .i64 cells,.slice a 0 c,.int .i64 sum,.slice a' n' c'] 27)) (.cells #[.slice a 0 c] 22);simp only[World.size_alloc] at h;exact h
  generalize ((w.alloc (.cells #[.int .i64 cells,.slice a 0 c,.int .i64 sum,.slice a' n' c'] 27)).alloc (.cells #[.slice a 0 c] 22))=W0 at fsz fB fq0 fq1 ⊢
  have y0:W0.cell? ⟨w.heap.size+1,0,none⟩=some (.slice a 0 c):=q_cell fq1 0
  have yl:=q_lt fq1
  clear fq0 fq1 fsz
  go_wp2_with fail
  go_ret2
  exact ⟨by rw[HV.out,HB.out];rfl,fB⟩
 ·have HV:Hid (lenV ls=((ls[0]?.getD []).length:Int)):=rfl
  have HB:Hid (levelB ls=!anyP (fun k=>((ls[k]?.getD []).length:Int) != ((ls[0]?.getD []).length:Int)) n):=by unfold Hid levelB;rw[decide_eq_true (by omega),hl];rfl
  clear h hl
  have hn0:(0:Int)<(n:Int):=by omega
  have hne:((n:Int)==0)=false:=by simpa using h0
  generalize lenV ls=lv at HV ⊢
  generalize levelB ls=lb at HB ⊢
  go_enter Tryz.func60,Tryz.ntmps60
  go_upto_region 2 with fail
  have fsz:((w.alloc (.cells #[.int .i64 cells,.slice a n c,.int .i64 sum,.slice a' n' c'] 27)).alloc (.cells #[.slice a n c] 22)).heap.size=w.heap.size+2:=by simp only[World.size_alloc] <;> omega
  have fB:Below w.heap.size w ((w.alloc (.cells #[.int .i64 cells,.slice a n c,.int .i64 sum,.slice a' n' c'] 27)).alloc (.cells #[.slice a n c] 22)):=((Below.refl _ _).alloc (Nat.le_refl _) _).alloc (by simp only[World.size_alloc];omega) _
  have fq0:((w.alloc (.cells #[.int .i64 cells,.slice a n c,.int .i64 sum,.slice a' n' c'] 27)).alloc (.cells #[.slice a n c] 22)).heap[w.heap.size]?=some (.cells #[.int .i64 cells,.slice a n c,.int .i64 sum,.slice a' n' c'] 27 (0,0)):=by have h:=World.alloc_heap_new w (.cells #[.int .i64 cells,.slice a n c,.int .i64 sum,.slice a' n' c'] 27);exact (Below.heap_alloc _ _ _ (by simp only[World.size_alloc];omega)).trans (h)
  have fq1:((w.alloc (.cells #[.int .i64 cells,.slice a n c,.int .i64 sum,.slice a' n' c'] 27)).alloc (.cells #[.slice a n c] 22)).heap[w.heap.size+1]?=some (.cells #[.slice a n c] 22 (0,0)):=by have h:=World.alloc_heap_new (w.alloc (.cells #[.int .i64 cells,.slice a n c,.int .i64 sum,.slice a' n' c'] 27)) (.cells #[.slice a n c] 22);simp only[World.size_alloc] at h;exact h
  generalize ((w.alloc (.cells #[.int .i64 cells,.slice a n c,.int .i64 sum,.slice a' n' c'] 27)).alloc (.cells #[.slice a n c] 22))=W0 at fsz fB fq0 fq1 ⊢
  have y0:W0.cell? ⟨w.heap.size+1,0,none⟩=some (.slice a n c):=q_cell fq1 0
  have yl:=q_lt fq1
  have HCF:Hid (∀W,Below W0.heap.size W0 W→Calls Tryz.prog 137 #[.slice a n c,.func (.func 138) #[] #[.pointer (some ⟨w.heap.size+1,0,none⟩)]] W fun e w'=>e = .returned (.bool (anyP (fun k=>((ls[k]?.getD []).length:Int) != ((ls[0]?.getD []).length:Int)) n))∧Below W.heap.size W w'):=fun W hbW =>
   containsFuncR_c a n c ls 138 #[.pointer (some ⟨w.heap.size+1,0,none⟩)] _ W (H.out.mono (keep_trans fB hbW)) len1_fn (fun k hk W2 a1 n1 c1 hb hic _=>by
    obtain ⟨b2,o2,a3,n3,c3,e2,hb2,hc2,hi3,_⟩:=(H.out.mono (keep_trans (keep_trans fB hbW) hb)).2 0 (by omega)
    have hq:=keepq (keep_trans hbW hb) fq1
    have h1:=q_cell hq 0
    simp only[Nat.add_zero] at hc2
    subst e2
    have e1:=hic.len
    have e3:=hi3.len
    refine (len1_c a1 n1 c1 (w.heap.size+1) b2 o2 n c a3 n3 c3 W2 (q_lt hq) h1 (by omega) (by omega) hb2 hc2).mono ?_
    rintro _ w3 ⟨rfl,rfl⟩
    exact ⟨by rw[e1,e3],Below.refl _ _⟩)
  generalize anyP (fun k=>((ls[k]?.getD []).length:Int) != ((ls[0]?.getD []).length:Int)) n=ab at HCF HB
  obtain ⟨b2,o2,a3,n3,c3,rfl,hb2,hc2,hi3,_⟩:=(H.out.mono fB).2 0 (by omega)
  simp only[Nat.add_zero] at hc2
  rw[hi3.len] at HV
  clear fq0 fq1 fsz hi3
  go_upto_region 4 with fail
  refine wp_region_S (fun w'=>∃u,w'=over (W0) u) [9] [(0,0),(0,1),(0,2),(0,3),(0,4),(0,5),(1,6),(0,7),(1,8),(2,9)] (by kernel_rfl) (by kernel_rfl) (by exact ⟨_,below_over (by repeat (first|assumption|exact Below.refl _ _|refine keep_drew ?_|refine keep_alloc ?_ _|refine keep_trans ?_ (by assumption)))⟩) ?_
  dsimp only[pickOps,nthOp]
  repeat (first|(refine wpS_skip rfl (fun K hK=>?_);go_big_quiet_op;refine hK _ ?_;clear hK K)|(refine wpS_quiet rfl rfl (fun K hK=>?_);go_big_quiet_op;refine hK _ ?_;clear hK K)|(refine wpS_loud ?_;go_wp2_with ((go_at_call 137;refine (HCF.out _ (keep_drew (Below.refl _ _))).mono ?_;rintro _ w3 ⟨rfl,hb3⟩));refine ⟨?_,?_⟩;focus (exact ⟨_,below_over (by repeat (first|assumption|exact Below.refl _ _|refine keep_drew ?_|refine keep_alloc ?_ _|refine keep_trans ?_ (by assumption)))⟩)))
  refine wpS_late _ _ _ rfl ?_
  dsimp only[List.map]
  go_wp2_with ((go_at_call 137;refine (HCF.out _ (keep_drew (Below.refl _ _))).mono ?_;rintro _ w3 ⟨rfl,hb3⟩))
  refine NoPanic.normal ?_
  go_wp2_with fail
  go_ret2
  exact ⟨by rw[HV.out,HB.out];rfl,keep_trans fB (keep_trans (keep_drew (Below.refl _ _)) hb3)⟩
theorem cmove_c (a:Option Addr) (n c:Nat) (ls:List (List Int)) (sum:Int) (a':Option Addr) (n' c':Nat) (ap:Option Addr) (cap:Nat) (p:List Int) (cp:Bool) (w:World) (h:RC w a n ls) (hp:IC w ap n' p) (hpe:permE p=0) :
  Calls Tryz.prog 57 #[.agg #[.int .i64 (n':Int),.slice a n c,.int .i64 sum,.slice a' n' c'],.agg #[.slice ap n' cap,.bool cp]] w fun e w'=>e = .returned (.int .i64 (whenV (cp&&!levelB ls) 2))∧Below w.heap.size w w':=by
 have hm:=hp.small
 have HCS:Hid (∀W,Below w.heap.size w W→Calls Tryz.prog 84 #[.agg #[.slice ap n' cap,.bool cp],.int .i64 (n':Int)] W fun e w'=>e = .returned (.int .i64 0)∧Below W.heap.size W w'):=fun W hb=>by
  have:=gsym_c ap n' cap p cp (n':Int) W (hp.mono hb)
  rw[symP_ok hp.len hpe] at this
  exact this
 have HLE:=Lib.hid (fun W (hb:Below w.heap.size w W)=>length_c a n c ls (n':Int) sum a' n' c' W (h.mono hb))
 clear h hp hpe
 generalize lenV ls=lv at HLE
 generalize levelB ls=lb at HLE ⊢
 have hne:((n':Int) != (n':Int))=false:=by simp
 go_enter Tryz.func57,Tryz.ntmps57
 go_upto_region 1 with fail
 have fsz:((w.alloc (.cells #[.int .i64 (n':Int),.slice a n c,.int .i64 sum,.slice a' n' c'] 27)).alloc (.cells #[.slice ap n' cap,.bool cp] 29)).heap.size=w.heap.size+2:=by simp only[World.size_alloc] <;> omega
 have fB:Below w.heap.size w ((w.alloc (.cells #[.int .i64 (n':Int),.slice a n c,.int .i64 sum,.slice a' n' c'] 27)).alloc (.cells #[.slice ap n' cap,.bool cp] 29)):=((Below.refl _ _).alloc (Nat.le_refl _) _).alloc (by simp only[World.size_alloc];omega) _
 have fq0:((w.alloc (.cells #[.int .i64 (n':Int),.slice a n c,.int .i64 sum,.slice a' n' c'] 27)).alloc (.cells #[.slice ap n' cap,.bool cp] 29)).heap[w.heap.size]?=some (.cells #[.int .i64 (n':Int),.slice a n c,.int .i64 sum,.slice a' n' c'] 27 (0,0)):=by have h:=World.alloc_heap_new w (.cells #[.int .i64 (n':Int),.slice a n c,.int .i64 sum,.slice a' n' c'] 27);exact (Below.heap_alloc _ _ _ (by simp only[World.size_alloc];omega)).trans (h)
 have fq1:((w.alloc (.cells #[.int .i64 (n':Int),.slice a n c,.int .i64 sum,.slice a' n' c'] 27)).alloc (.cells #[.slice ap n' cap,.bool cp] 29)).heap[w.heap.size+1]?=some (.cells #[.slice ap n' cap,.bool cp] 29 (0,0)):=by have h:=World.alloc_heap_new (w.alloc (.cells #[.int .i64 (n':Int),.slice a n c,.int .i64 sum,.slice a' n' c'] 27)) (.cells #[.slice ap n' cap,.bool cp] 29);simp only[World.size_alloc] at h;exact h
 generalize ((w.alloc (.cells #[.int .i64 (n':Int),.slice a n c,.int .i64 sum,.slice a' n' c'] 27)).alloc (.cells #[.slice ap n' cap,.bool cp] 29))=W0 at fsz fB fq0 fq1 ⊢
 have HX:=Lib.hid (fun W (hb:Below W0.heap.size W0 W)=>l4 (keepq hb fq0))
 have HY:=Lib.hid (fun W (hb:Below W0.heap.size W0 W)=>(And.intro (q_cell (keepq hb fq1) 0) (And.intro (q_cell (keepq hb fq1) 1) (q_lt (keepq hb fq1))):W.cell? ⟨w.heap.size+1,0,none⟩=some (.slice ap n' cap)∧W.cell? ⟨w.heap.size+1,1,none⟩=some (.bool cp)∧w.heap.size+1<W.heap.size))
 obtain ⟨x0,x1,x2,x3,xl⟩:=HX.out _ (Below.refl _ _)
 obtain ⟨y0,y1,yl⟩:=HY.out _ (Below.refl _ _)
 clear fq0 fq1 fsz
 refine wp_region_S (fun w'=>∃u,w'=over (W0) u) [15,14,13,12] [(0,0),(0,1),(0,2),(0,3),(0,5),(0,6),(0,7),(0,8),(0,9),(0,10),(0,11),(1,4),(2,12),(2,13),(2,14),(2,15)] (by kernel_rfl) (by kernel_rfl) (by exact ⟨_,below_over (by repeat (first|assumption|exact Below.refl _ _|refine keep_drew ?_|refine keep_alloc ?_ _|refine keep_trans ?_ (by assumption)))⟩) ?_
 dsimp only[pickOps,nthOp]
 repeat (first|(refine wpS_skip rfl (fun K hK=>?_);go_big_quiet_op;refine hK _ ?_;clear hK K)|(refine wpS_quiet rfl rfl (fun K hK=>?_);go_big_quiet_op;refine hK _ ?_;clear hK K)|(refine wpS_loud ?_;go_wp2_with (first|(go_at_call 84;refine (HCS.out _ (keep_trans fB (keep_drew (Below.refl _ _)))).mono ?_;rintro _ w1 ⟨rfl,hb1⟩)|(go_at_call 66;refine (when_c _ _ _).mono ?_;rintro _ w2 ⟨rfl,rfl⟩)|(go_at_call 65;refine (first_c _ _ _ _ _ (IC.new2 _ _ _ _)).mono ?_;rintro _ w4 ⟨rfl,rfl⟩));refine ⟨?_,?_⟩;focus (exact ⟨_,below_over (by repeat (first|assumption|exact Below.refl _ _|refine keep_drew ?_|refine keep_alloc ?_ _|refine keep_trans ?_ (by assumption)))⟩)))
 refine wpS_late _ _ _ rfl ?_
 dsimp only[List.map]
 go_wp2_with (first|(go_at_call 84;refine (HCS.out _ (keep_trans fB (keep_drew (Below.refl _ _)))).mono ?_;rintro _ w1 ⟨rfl,hb1⟩)|(go_at_call 66;refine (when_c _ _ _).mono ?_;rintro _ w2 ⟨rfl,rfl⟩)|(go_at_call 65;refine (first_c _ _ _ _ _ (IC.new2 _ _ _ _)).mono ?_;rintro _ w4 ⟨rfl,rfl⟩))
 refine NoPanic.normal ?_
 have hz:firstL [0,whenV false 2]=0:=rfl
 rw[hz]
 have hb2:Below W0.heap.size W0 (w1.alloc (.cells #[.int .i64 0,.int .i64 (whenV false 2)] 34)):=keep_alloc (keep_trans (keep_drew (Below.refl _ _)) hb1) _
 generalize (w1.alloc (.cells #[.int .i64 0,.int .i64 (whenV false 2)] 34))=w5 at hb2 ⊢
 clear x0 x1 x2 x3 xl y0 y1 yl hb1
 obtain ⟨x0,x1,x2,x3,xl⟩:=HX.out _ hb2
 go_wp2_with fail
 refine (HLE.out _ (keep_trans fB hb2)).mono ?_
 rintro _ w6 ⟨rfl,hb6⟩
 clear x0 x1 x2 x3 xl
 obtain ⟨y0,y1,yl⟩:=HY.out _ (keep_trans hb2 hb6)
 have hB6:=keep_trans fB (keep_trans hb2 hb6)
 cases cp with
 | false =>
  go_wp2_with (first|(go_at_call 66;refine (when_c _ _ _).mono ?_;rintro _ w2 ⟨rfl,rfl⟩))
  go_ret
  exact ⟨rfl,hB6⟩
 | true =>
  cases lb with
  | false =>
   go_wp2_with (first|(go_at_call 66;refine (when_c _ _ _).mono ?_;rintro _ w2 ⟨rfl,rfl⟩))
   go_ret
   exact ⟨rfl,hB6⟩
  | true =>
   go_wp2_with (first|(go_at_call 66;refine (when_c _ _ _).mono ?_;rintro _ w2 ⟨rfl,rfl⟩))
   go_ret
   exact ⟨rfl,hB6⟩
end
end Go.Proofs.YtaadpihbjhachaaGreat
