/- Texts R1 to S0 of this proof, in one file. -/
import Derived.Test.YtcblpobiefmjmaaGreatW06
import Derived.Test.YtcblpobiefmjmaaGreatW07
import Derived.Test.YtcblpobiefmjmaaGreatW12
import Derived.Deep.CutBlock
import Derived.Deep.CutRange
namespace Go.Proofs.YtcblpobiefmjmaaGreat
set_option maxRecDepth 100000
set_option maxHeartbeats 16000000
section
open Go Go.RowKit
attribute [local go_sem] over_cell
attribute [local go_sem] Oper.semAt_some
theorem rsumof_c (a a':Option Addr) (n n' c c':Nat) (l f:List Int) (w:World) (h:IC w a n l) (h':IC w a' n' f) (hn:n≤1000)
  (hl:∀k,k<n→0≤l[k]?.getD 0∧l[k]?.getD 0<(n':Int)) (hf:∀c:Nat,0≤f[c]?.getD 0∧f[c]?.getD 0≤1000000000) :
  Calls Tryz.prog 84 #[.slice a n c,.slice a' n' c'] w fun e w'=>e = .returned (.int .i64 (sumAt l f))∧w=w':=by
 have HF:=Lib.hid hf
 have HL:=Lib.hid hl
 clear hf hl
 have hm':=h'.small
 go_enter Tryz.func84,Tryz.ntmps84
 go_wp2
 go_loop [5,6] (fun s i=>∃k:Nat,k≤n∧i = .int .i64 k∧s = .int .i64 (sumTo l f k)) (fun _ i=>n - (intOf i).toNat)
 case atStart=>exact ⟨0,by omega,rfl,rfl⟩
 case round =>
  obtain ⟨k,hk,rfl,rfl⟩:=hrel
  have hb:=sumTo_bd HF.out k (by rw[h.len];exact hk)
  have hb2:sumTo l f k≤1000000000000:=by
   have:(k:Int)*1000000000≤1000*1000000000:=Int.mul_le_mul_of_nonneg_right (by omega) (by omega)
   omega
  have hb1:=hb.1
  clear hb
  by_cases hlt:k<n
  ·obtain ⟨b,off,rfl,hbb,hc⟩:=h.2 k hlt
   have hr:=HL.out k hlt
   obtain ⟨x,hx⟩:∃x:Nat,l[k]?.getD 0=(x:Int):=⟨(l[k]?.getD 0).toNat,by omega⟩
   rw[hx] at hr hc
   have hS:=Lib.hid (sumTo_succ (f:=f) (show k<l.length by rw[h.len];exact hlt))
   rw[hx] at hS
   clear hx
   obtain ⟨b',off',rfl,hbb',hc'⟩:=h'.2 x (by omega)
   have hfx:=HF.out x
   have hr2:=hr.2
   have hr3:x<n':=by omega
   have hfx1:=hfx.1
   have hfx2:=hfx.2
   clear hr hfx
   go_wp2
   go_round
   case rel=>exact ⟨k+1,by omega,by go_num,by rw[hS.out];simp⟩
   case measure=>simp[intOf];omega
  ·go_wp2
   go_ret
   have e:k=n:=by omega
   subst e
   refine ⟨ret_int ?_,rfl⟩
   unfold sumTo
   rw[List.take_of_length_le (by rw[h.len];omega)]
def fillG (g P:List Int):List Int:=((openL g).zip P).foldl (fun f cx=>f.set cx.1.toNat cx.2) g
theorem fillP_G (C:Cst) (P:List Int):fillP C P=fillG C.g P:=rfl
theorem fillG_len (g P:List Int):(fillG g P).length=g.length:=foldl_set_len _ _
theorem fillG_snoc (g P:List Int) (x:Int) (h:P.length<(openL g).length):fillG g (P++[x])=(fillG g P).set ((openL g)[P.length]?.getD 0).toNat x:=by
 have:=fillP_snoc (plC [] 0 g) P x h
 rw[fillP_G,fillP_G] at this
 rw[List.getElem?_eq_getElem h]
 exact this
theorem open_lt {g:List Int} {k:Nat} (h:k<(openL g).length):∃x:Nat,(openL g)[k]?.getD 0=(x:Int)∧x<g.length∧g[x]?.getD 0=0:=by
 have hm:=mem_open.1 (List.getElem_mem h)
 rw[List.getElem?_eq_getElem h]
 exact ⟨((openL g)[k]).toNat,by simp only[Option.getD_some];omega,by omega,hm.2.2⟩
theorem placed_c (v1:Value) (cells sum:Int) (a':Option Addr) (n' c':Nat) (g:List Int) (ap:Option Addr) (np cp:Nat) (P:List Int) (w:World) (h':IC w a' n' g) (hn0:0<n') (hn:n'≤256) (hP:IC w ap np P) (hlp:np≤(openL g).length) :
  Calls Tryz.prog 95 #[.agg #[.int .i64 cells,v1,.int .i64 sum,.slice a' n' c'],.slice ap np cp] w fun e w'=>∃v,e = .returned v∧w'.ownsRow w.heap.size 3 1 v n' ((fillG g P).map (Value.int .i64))∧Below w.heap.size w w':=by
 obtain ⟨i0,hi,hz0,hz1,hz2⟩:=info_parts infoInt
 have H:=Lib.hid h'
 have HP:=Lib.hid hP
 have hlen:=Lib.hid h'.len
 have hplen:=Lib.hid hP.len
 have hps:=hP.small
 have HOP:=Lib.hid (fun w1 (hb:Below w.heap.size w w1)=>ropen_c v1 cells sum a' n' c' g w1 (h'.mono hb))
 have hol:Hid ((openL g).length≤256):=by unfold Hid;have:=openTo_len g g.length;rw[h'.len] at this;unfold openL;rw[h'.len];omega
 obtain ⟨bl,ol,rfl,hbl,_⟩:=h'.2 0 (by omega)
 clear h' hP
 go_enter Tryz.func95,Tryz.ntmps95
 go_upto_region 1 with fail
 have fsz:(w.alloc (.cells #[.int .i64 cells,v1,.int .i64 sum,.slice (some ⟨bl,ol,none⟩) n' c'] 28)).heap.size=w.heap.size+1:=by simp only[World.size_alloc]
 have fB:Below w.heap.size w (w.alloc (.cells #[.int .i64 cells,v1,.int .i64 sum,.slice (some ⟨bl,ol,none⟩) n' c'] 28)):=(Below.refl _ _).alloc (Nat.le_refl _) _
 have fq0:(w.alloc (.cells #[.int .i64 cells,v1,.int .i64 sum,.slice (some ⟨bl,ol,none⟩) n' c'] 28)).heap[w.heap.size]?=some (.cells #[.int .i64 cells,v1,.int .i64 sum,.slice (some ⟨bl,ol,none⟩) n' c'] 28 (0,0)):=by have h:=World.alloc_heap_new w (.cells #[.int .i64 cells,v1,.int .i64 sum,.slice (some ⟨bl,ol,none⟩) n' c'] 28);exact h
 generalize (w.alloc (.cells #[.int .i64 cells,v1,.int .i64 sum,.slice (some ⟨bl,ol,none⟩) n' c'] 28))=W0 at fsz fB fq0 ⊢
 have HQ:=Lib.hid fq0
 have fsz':w.heap.size<W0.heap.size:=by omega
 have s3:W0.cell? ⟨w.heap.size,3,none⟩=some (.slice (some ⟨bl,ol,none⟩) n' c'):=q_cell fq0 3
 have hic2:=H.out.mono fB
 have HC:=Lib.hid (hic2.cells (p:=⟨bl,ol,none⟩))
 have hbl2:bl<W0.heap.size:=Nat.lt_of_lt_of_le hbl fB.size
 have hownE:(W0.alloc (.cells #[] 3)).ownsRow W0.heap.size 3 1 (.slice (some ⟨W0.heap.size,0,none⟩) 0 0) 0 []:=⟨rfl,.inr ⟨W0.heap.size,0,#[],rfl,Nat.le_refl _,World.alloc_heap_new _ _,Nat.le_refl _,by unfold maxLen;omega,rfl,rfl⟩⟩
 have hBE:Below W0.heap.size W0 (W0.alloc (.cells #[] 3)):=(Below.refl _ _).alloc (Nat.le_refl _) _
 have HNW:Hid (∀j u,(g.map (Value.int .i64))[j]?=some u→(W0.alloc (.cells #[] 3)).cell? ((⟨bl,ol,none⟩:Addr).add j)=some u):=fun j u hj=>by
  have h1:=HC.out j u hj
  rw[← h1]
  have hadd:((⟨bl,ol,none⟩:Addr).add j)=⟨bl,ol+j,none⟩:=by unfold Addr.add;split <;> simp_all
  rw[hadd]
  exact (bcell hBE).1 _ _ hbl2
 clear fq0 fsz hic2
 go_upto_region 2 with (at_builtin;refine wpList_append_own _ rfl _ _ 25 rfl W0.heap.size 3 i0 (.int .i64 0) 1 8 Tryz.underlying25 hi hz0 hz1 hz2 rfl (by decide) _ _ _ rfl hownE ⟨bl,ol,none⟩ n' c' (g.map (Value.int .i64)) rfl (by rw[List.length_map,hlen.out];omega) HNW.out (by simp[Value.oneCell']) (by unfold maxLen;omega) (by omega) (by simp) ?_;intro v5 w5 hown5 hgrow hnil;clear hnil)
 obtain ⟨a5,c5,rfl⟩:=owns_slice4 hown5
 simp only[Nat.zero_add] at hown5 ⊢
 have hB5:Below W0.heap.size W0 w5:=hBE.grown hgrow (by simp) (fun k e=>by cases e;exact Nat.le_refl _)
 clear hgrow hownE hBE
 have hown6:w5.ownsRow W0.heap.size 3 1 (.slice a5 n' c5) n' (g.map (Value.int .i64)):=by simpa using hown5
 obtain ⟨gb,cur,rfl,hgb,hbk9⟩:=owns_blk hown6 hn0
 have hgb5:gb<w5.heap.size:=(hown6.lt gb rfl).2
 have HQ5:=keepq hB5 HQ.out
 have hBw5:=keep_trans fB hB5
 clear hbk9 hown5 s3 HNW HC
 have x0:w5.cell? ⟨w.heap.size,0,none⟩=some (.int .i64 cells):=q_cell HQ5 0
 have x1:w5.cell? ⟨w.heap.size,1,none⟩=some v1:=q_cell HQ5 1
 have x2:w5.cell? ⟨w.heap.size,2,none⟩=some (.int .i64 sum):=q_cell HQ5 2
 have x3:w5.cell? ⟨w.heap.size,3,none⟩=some (.slice (some ⟨bl,ol,none⟩) n' c'):=q_cell HQ5 3
 have xl:=q_lt HQ5
 go_wp2_with fail
 refine (HOP.out w5 hBw5).mono ?_
 rintro _ w6 ⟨vo,rfl,howno,hb6⟩
 obtain ⟨ao,co,rfl⟩:=owns_shape howno
 have hO:=Lib.hid (IC.of_owns howno (by have:=hol.out;omega))
 have HOG:Hid (∀b off,ao=some ⟨b,off,none⟩→gb≠b):=by
  rintro b off rfl
  have:=howno.lt b rfl
  omega
 have hoc:=hO.out.2
 have hown0:w6.ownsRow W0.heap.size 3 1 (.slice (some ⟨gb,0,none⟩) n' c5) n' (g.map (Value.int .i64)):=owns_keep hown6 (fun k _ hl=>hb6.block k hl)
 have hBw6:=keep_trans hBw5 hb6
 have hgb6:gb<w6.heap.size:=Nat.lt_of_lt_of_le hgb5 hb6.size
 clear x0 x1 x2 x3 xl HQ5 HQ hown6 howno hb6 hB5 HOP
 go_wp2_with fail
 go_loopw [7] (fun iv wr=>∃k:Nat,k≤np∧iv = .int .i64 k∧wr.ownsRow W0.heap.size 3 1 (.slice (some ⟨gb,0,none⟩) n' c5) n' ((fillG g (P.take k)).map (Value.int .i64))∧Stays (fun b=>b=gb) w6 wr) (fun iv _=>np - (intOf iv).toNat)
 case atStart=>exact ⟨0,by omega,rfl,by simpa [fillG] using hown0,Stays.refl _ _⟩
 case round =>
  obtain ⟨k,hk,rfl,hown,hst⟩:=hrel
  by_cases hlt:k<np
  ·obtain ⟨bp,op,rfl,hbp,hcp⟩:=HP.out.2 k hlt
   have hsz:=fB.size
   have hne:bp≠gb:=by omega
   have hcp2:wr.cell? ⟨bp,op+k,none⟩=some (.int .i64 (P[k]?.getD 0)):=(hst.cell (Nat.lt_of_lt_of_le hbp hBw6.size) hne).trans (((bcell hBw6).1 _ _ hbp).trans hcp)
   have hbp2:bp<wr.heap.size:=Nat.lt_of_lt_of_le hbp (Nat.le_trans hBw6.size hst.size)
   obtain ⟨ci,hci,hcl,_⟩:=open_lt (g:=g) (k:=k) (by omega)
   obtain ⟨bo,oo,rfl,hbo,hco⟩:=hO.out.1.2 k (by omega)
   have hco2:wr.cell? ⟨bo,oo+k,none⟩=some (.int .i64 ci):=(hst.cell hbo (Ne.symm (HOG.out _ _ rfl))).trans (by rw[hco,hci])
   have hbo2:bo<wr.heap.size:=Nat.lt_of_lt_of_le hbo hst.size
   have hcn:ci<n':=by rw[← hlen.out];exact hcl
   obtain ⟨g9,c9,x9,e9,_,hcell9,hfr9,hlt9,hn9⟩:=owns_free hown ci hcn
   simp only[Value.slice.injEq,Option.some.injEq,Addr.mk.injEq,true_and,and_true] at e9
   obtain ⟨rfl,hcap9⟩:=e9
   rw[← hcap9] at hn9
   have hl1:(k:Int)<(np:Int):=by omega
   have hl2:(k:Int)<((openL g).length:Int):=by omega
   have hl3:(ci:Int)<(n':Int):=by omega
   have hS:=Lib.hid (fillG_snoc g (P.take k) (P[k]?.getD 0) (by rw[List.length_take,hplen.out];omega))
   rw[List.length_take,hplen.out,Nat.min_eq_left (by omega),hci,Int.toNat_natCast,← take_snoc P 0 k (by rw[hplen.out];exact hlt)] at hS
   have o7:(wr.drew.setCell ⟨gb,ci,none⟩ (.int .i64 (P[k]?.getD 0))).ownsRow W0.heap.size 3 1 (.slice (some ⟨gb,0,none⟩) n' c5) n' ((fillG g (P.take (k+1))).map (Value.int .i64)):=by rw[hS.out,List.map_set];exact owns_set (w:=wr.drew) hown ci _
   have s7:Stays (fun b=>b=gb) w6 (wr.drew.setCell ⟨gb,ci,none⟩ (.int .i64 (P[k]?.getD 0))):=hst.drew.trans (Stays.setCell (S:=fun b=>b=gb) wr.drew (p:=⟨gb,ci,none⟩) rfl _) (fun _ e => .inl e)
   have O7:=Lib.hid o7
   have S7:=Lib.hid s7
   clear o7 s7 hS hown hst hco hcp hci hown0 hcap9
   go_wp2_with fail
   refine wp_region_S (fun w'=>∃u,w'=over (wr) u) [10] [(0,0),(0,1),(0,2),(0,3),(0,4),(0,5),(0,6),(0,7),(0,8),(0,9),(2,10)] (by kernel_rfl) (by kernel_rfl) (by exact ⟨_,below_over (by repeat (first|assumption|exact Below.refl _ _|refine keep_drew ?_|refine keep_alloc ?_ _|refine keep_trans ?_ (by assumption)))⟩) ?_
   dsimp only[pickOps,nthOp]
   repeat (first|(refine wpS_skip rfl (fun K hK=>?_);go_big_quiet_op;refine hK _ ?_;clear hK K)|(refine wpS_quiet rfl rfl (fun K hK=>?_);go_big_quiet_op;refine hK _ ?_;clear hK K))
   refine wpS_late _ _ _ rfl ?_
   dsimp only[List.map]
   go_wp2
   refine NoPanic.normal ?_
   go_wp2
   go_roundw
   case rel=>exact ⟨k+1,by omega,by go_num,O7.out,S7.out⟩
   case measure=>simp[intOf];omega
  ·have e:k=np:=by omega
   subst e
   rw[List.take_of_length_le (by rw[hplen.out];omega)] at hown
   have hsz:=fB.size
   go_wp2_with fail
   go_ret
   exact ⟨_,rfl,owns_base hown (by omega),hBw6.trans (hst.below hBw6.size (fun b e=>by omega))⟩
end
section
open Go Go.RowKit
attribute [local go_sem] over_cell
attribute [local go_sem] Oper.semAt_some
def flTo (f l:List Int) (j:Nat):Bool:=(l.take j).all fun c=>decide (0<f[c.toNat]?.getD 0)
def badLB (f:List Int) (sum:Int) (l:List Int):Bool:=flTo f l l.length&&sumAt l f != sum
def wrongR (ls:List (List Int)) (sum:Int) (g P:List Int):Bool:=ls.any (badLB (fillG g P) sum)
def deadR (ls:List (List Int)) (sum:Int) (g P:List Int):Bool:=(P.length==(openL g).length)||wrongR ls sum g P
def foundR (ls:List (List Int)) (sum:Int) (g P:List Int):Bool:=(P.length==(openL g).length)&&!wrongR ls sum g P
theorem flTo_succ {f l:List Int} {j:Nat} (h:j<l.length):flTo f l (j+1)=(flTo f l j&&decide (0<f[(l[j]?.getD 0).toNat]?.getD 0)):=by
 unfold flTo
 rw[take_snoc l 0 j h,List.all_append]
 simp
theorem foldl_set_nm:∀(l:List (Int × Int)) (g:List Int),(∀x,x∈l→0≤x.2∧x.2≤256)→(∀c:Nat,0≤g[c]?.getD 0∧g[c]?.getD 0≤256)→∀c:Nat,0≤(l.foldl (fun f cx=>f.set cx.1.toNat cx.2) g)[c]?.getD 0∧(l.foldl (fun f cx=>f.set cx.1.toNat cx.2) g)[c]?.getD 0≤256
 | [],g,_,hg,c=>hg c
 | x :: l,g,hl,hg,c=>by
  rw[List.foldl_cons]
  refine foldl_set_nm l _ (fun y hy=>hl y (List.mem_cons_of_mem _ hy)) (fun d=>?_) c
  by_cases e:x.1.toNat=d
  ·by_cases h2:d<g.length
   ·rw[e,List.getElem?_set_self h2];exact hl x List.mem_cons_self
   ·rw[List.getElem?_eq_none (by simpa using h2)];simp
  ·rw[List.getElem?_set_ne e];exact hg d
theorem zip_snd {α β:Type} {x:α × β}:∀{O:List α} {P:List β},x∈O.zip P→x.2∈P
 | [],_,h=>by simp at h
 | _ :: _,[],h=>by simp at h
 | o :: O,p :: P,h=>by
  rw[List.zip_cons_cons,List.mem_cons] at h
  rcases h with h|h
  ·rw[h];exact List.mem_cons_self
  ·exact List.mem_cons_of_mem _ (zip_snd h)
theorem GoodTask.nums {cells:Int} {ls:List (List Int)} {sum:Int} {g:List Int} (h:GoodTask cells ls sum g) (k:Nat):0≤g[k]?.getD 0∧g[k]?.getD 0≤256:=by
 by_cases hk:k<g.length
 ·have:=h.num k hk
  have:=h.cells2
  omega
 ·rw[List.getElem?_eq_none (by omega)];decide
theorem fillG_nm {g P:List Int} (hg:∀c:Nat,0≤g[c]?.getD 0∧g[c]?.getD 0≤256) (hP:∀x,x∈P→0≤x∧x≤256) (c:Nat):0≤(fillG g P)[c]?.getD 0∧(fillG g P)[c]?.getD 0≤256 :=
 foldl_set_nm _ _ (fun _ hx=>hP _ (zip_snd hx)) hg c
theorem wrong_hit {ls:List (List Int)} {sum:Int} {g P:List Int} {k:Nat} (hk:k<ls.length) (h:badLB (fillG g P) sum (ls[k]?.getD [])=true):wrongR ls sum g P=true:=by
 unfold wrongR
 rw[List.any_eq_true]
 rw[List.getElem?_eq_getElem hk] at h
 exact ⟨ls[k],List.getElem_mem hk,h⟩
theorem wrong_end {ls:List (List Int)} {sum:Int} {g P:List Int} (h:∀k,k<ls.length→badLB (fillG g P) sum (ls[k]?.getD [])=false):wrongR ls sum g P=false:=by
 unfold wrongR
 rw[List.any_eq_false]
 intro l hl
 obtain ⟨k,hk,rfl⟩:=List.getElem_of_mem hl
 have:=h k hk
 rw[List.getElem?_eq_getElem hk] at this
 simpa using this
theorem upb_snoc {f:Nat→Bool} {k:Nat} (h:∀j,j<k→f j=false) (hk:f k=false):∀j,j<k+1→f j=false:=by
 intro j hj
 by_cases e:j=k
 ·rw[e];exact hk
 ·exact h j (by omega)
theorem rwrong_c {cells:Int} {ls:List (List Int)} {sum:Int} {g:List Int} (G:GoodTask cells ls sum g) (a:Option Addr) (n c:Nat) (a':Option Addr) (n' c':Nat) (ap:Option Addr) (np cp:Nat) (P:List Int) (w:World) (h:RC w a n ls) (h':IC w a' n' g) (hP:IC w ap np P) (hlp:np≤(openL g).length) (hPn:∀x,x∈P→0≤x∧x≤256) :
  Calls Tryz.prog 135 #[.agg #[.int .i64 cells,.slice a n c,.int .i64 sum,.slice a' n' c'],.slice ap np cp] w fun e w'=>e = .returned (.bool (wrongR ls sum g P))∧Below w.heap.size w w':=by
 have hgl:=h'.len
 have hn0:0<n':=by have:=G.len;have:=G.cells1;omega
 have hn1:n'≤256:=by have:=G.len;have:=G.cells2;omega
 have hns:=h.small
 have H:=Lib.hid h
 have hll:=Lib.hid h.len
 have HPL:=Lib.hid (fun w1 (hb:Below w.heap.size w w1)=>placed_c (.slice a n c) cells sum a' n' c' g ap np cp P w1 (h'.mono hb) hn0 hn1 (hP.mono hb) hlp)
 have HF:Hid (∀c:Nat,0≤(fillG g P)[c]?.getD 0∧(fillG g P)[c]?.getD 0≤256):=fillG_nm G.nums hPn
 have hfl:=Lib.hid ((fillG_len g P).trans hgl)
 have HLN:Hid (∀k,k<n→(ls[k]?.getD []).length≤1000∧∀x,x∈ls[k]?.getD []→0≤x∧x<(n':Int)):=fun k hk=>by
  have hk2:k<ls.length:=by rw[hll.out];exact hk
  rw[List.getElem?_eq_getElem hk2,Option.getD_some]
  have h1:=G.lineLen (List.getElem_mem hk2)
  have h2:=G.len
  exact ⟨h1.1,fun x hx=>by have:=h1.2 x hx;omega⟩
 have HW1:Hid (∀k,k<n→badLB (fillG g P) sum (ls[k]?.getD [])=true→wrongR ls sum g P=true):=fun k hk e=>wrong_hit (by rw[hll.out];exact hk) e
 have HW0:Hid ((∀k,k<n→badLB (fillG g P) sum (ls[k]?.getD [])=false)→wrongR ls sum g P=false):=fun e=>wrong_end (by rw[hll.out];exact e)
 clear h h' hP hPn G hgl hlp
 generalize wrongR ls sum g P=wv at HW1 HW0 ⊢
 go_enter Tryz.func135,Tryz.ntmps135
 go_wp2_with fail
 have fsz:(w.alloc (.cells #[.int .i64 cells,.slice a n c,.int .i64 sum,.slice a' n' c'] 28)).heap.size=w.heap.size+1:=by simp only[World.size_alloc]
 have fB:Below w.heap.size w (w.alloc (.cells #[.int .i64 cells,.slice a n c,.int .i64 sum,.slice a' n' c'] 28)):=(Below.refl _ _).alloc (Nat.le_refl _) _
 have fq0:(w.alloc (.cells #[.int .i64 cells,.slice a n c,.int .i64 sum,.slice a' n' c'] 28)).heap[w.heap.size]?=some (.cells #[.int .i64 cells,.slice a n c,.int .i64 sum,.slice a' n' c'] 28 (0,0)):=by have h:=World.alloc_heap_new w (.cells #[.int .i64 cells,.slice a n c,.int .i64 sum,.slice a' n' c'] 28);exact h
 generalize (w.alloc (.cells #[.int .i64 cells,.slice a n c,.int .i64 sum,.slice a' n' c'] 28))=W0 at fsz fB fq0 ⊢
 have HQ:=Lib.hid fq0
 clear fq0 fsz
 refine (HPL.out W0 fB).mono ?_
 rintro _ w6 ⟨vf,rfl,hownf,hb6⟩
 obtain ⟨af,cf,rfl⟩:=owns_shape hownf
 have hF6:=Lib.hid (IC.of_owns (xs:=fillG g P) (by rw[hfl.out];exact hownf) (by rw[hfl.out];omega)).1
 have HQ6:=Lib.hid (keepq hb6 HQ.out)
 have hBw6:=keep_trans fB hb6
 clear hownf hb6 HPL HQ
 generalize fillG g P=f at HF hfl hF6 HW1 HW0 ⊢
 go_wp2_with fail
 go_loopw [6,7,8] (fun iv _ _ wr=>∃k:Nat,k≤n∧iv = .int .i64 k∧Hid (∀j,j<k→badLB f sum (ls[j]?.getD [])=false)∧Below w6.heap.size w6 wr) (fun iv _ _ _=>n - (intOf iv).toNat)
 case atStart=>exact ⟨0,by omega,rfl,fun j hj=>absurd hj (by omega),Below.refl _ _⟩
 case round =>
  obtain ⟨k,hk,rfl,hno,hbr⟩:=hrel
  have hBr:=keep_trans hBw6 hbr
  have x1:wr.cell? ⟨w.heap.size,1,none⟩=some (.slice a n c):=q_cell (keepq hbr HQ6.out) 1
  have x2:wr.cell? ⟨w.heap.size,2,none⟩=some (.int .i64 sum):=q_cell (keepq hbr HQ6.out) 2
  have xl:=q_lt (keepq hbr HQ6.out)
  by_cases hlt:k<n
  ·obtain ⟨b,off,al,nl,cl,rfl,hb,hc,hic,hcl⟩:=(H.out.mono hBr).2 k hlt
   have hln:=HLN.out k hlt
   have HB1:=Lib.hid (HW1.out k hlt)
   have hll2:=Lib.hid hic.len
   have hbl:Hid (badLB f sum (ls[k]?.getD [])=(flTo f (ls[k]?.getD []) nl&&sumAt (ls[k]?.getD []) f != sum)):=by unfold Hid badLB;rw[hic.len]
   generalize hl9:ls[k]?.getD []=l at hic hln HB1 hll2 hbl
   have HL9:=Lib.hid hl9
   clear hl9
   have hn1000:nl≤1000:=by rw[← hll2.out];exact hln.1
   have HLX:Hid (∀j,j<nl→0≤l[j]?.getD 0∧l[j]?.getD 0<(n':Int)):=fun j hj=>by
    have hj2:j<l.length:=by rw[hll2.out];exact hj
    rw[List.getElem?_eq_getElem hj2,Option.getD_some]
    exact hln.2 _ (List.getElem_mem hj2)
   have HSM:=Lib.hid (fun W (hb2:Below wr.heap.size wr W)=>rsumof_c al af nl n' cl cf l f W (hic.mono hb2) ((hF6.out.mono hbr).mono hb2) hn1000 HLX.out (fun d=>by have:=HF.out d;omega))
   have hki:(k:Int)<(n:Int):=by omega
   clear hln
   go_wp2_with fail
   go_loopg [7,8] nl (fun gk fv jv wv=>∃j:Nat,gk=nl - j∧j≤nl∧jv = .int .i64 j∧fv = .bool (flTo f l j)∧wv=wr)
   case atStart=>exact ⟨0,by omega,by omega,rfl,rfl,rfl⟩
   case round =>
    obtain ⟨j,rfl,hj,rfl,rfl,hwv⟩:=hrel
    replace hwv:=hwv.symm
    subst hwv
    by_cases hltj:j<nl
    ·have hji:(j:Int)<(nl:Int):=by omega
     have HS:=Lib.hid (flTo_succ (f:=f) (show j<l.length by rw[hll2.out];exact hltj))
     cases hft:flTo f l j with
     | false =>
      rw[hft,Bool.false_and] at HS
      go_wp2
      go_roundg (nl - (j+1))
      case measure=>omega
      case rel=>exact ⟨j+1,rfl,by omega,by go_num,by rw[HS.out],rfl⟩
     | true =>
      rw[hft,Bool.true_and] at HS
      obtain ⟨bl,ol,rfl,hbl2,hcl2⟩:=hic.2 j hltj
      obtain ⟨x,hx⟩:∃x:Nat,l[j]?.getD 0=(x:Int):=⟨(l[j]?.getD 0).toNat,by have:=HLX.out j hltj;omega⟩
      have hx2:=HLX.out j hltj
      rw[hx] at hcl2 HS hx2
      rw[Int.toNat_natCast] at HS
      have hxn:x<n':=by omega
      obtain ⟨bf,off',rfl,hbf,hcf⟩:=(hF6.out.mono hbr).2 x hxn
      have hxi:=hx2.2
      clear hx hx2
      go_wp2
      go_roundg (nl - (j+1))
      case measure=>omega
      case rel=>exact ⟨j+1,rfl,by omega,by go_num,by rw[HS.out],rfl⟩
    ·have e:j=nl:=by omega
     subst e
     cases hft:flTo f l j with
     | false =>
      have hbl3:badLB f sum l=false:=by rw[hbl.out,hft];rfl
      have HBL:=Lib.hid hbl3
      clear hbl3
      go_wp2
      refine wp_region_S (fun w'=>∃u,w'=over (wr) u) [] [(0,0),(0,1),(0,2),(0,3),(0,4),(0,5),(0,6),(0,7),(0,8),(0,10),(0,11),(1,9),(0,12),(0,13)] (by kernel_rfl) (by kernel_rfl) (by exact ⟨_,below_over (by repeat (first|assumption|exact Below.refl _ _|refine keep_drew ?_|refine keep_alloc ?_ _|refine keep_trans ?_ (by assumption)))⟩) ?_
      dsimp only[pickOps,nthOp]
      repeat (first|(refine wpS_skip rfl (fun K hK=>?_);go_big_quiet_op;refine hK _ ?_;clear hK K)|(refine wpS_quiet rfl rfl (fun K hK=>?_);go_big_quiet_op;refine hK _ ?_;clear hK K)|(refine wpS_loud ?_;go_wp2;refine ⟨?_,?_⟩;focus (exact ⟨_,below_over (by repeat (first|assumption|exact Below.refl _ _|refine keep_drew ?_|refine keep_alloc ?_ _|refine keep_trans ?_ (by assumption)))⟩)))
      refine wpS_end ?_
      go_wp2
      go_roundw
      case rel=>exact ⟨k+1,by omega,by go_num,upb_snoc hno.out (by rw[HL9.out];exact HBL.out),hbr.drew⟩
      case measure=>simp[intOf];omega
     | true =>
      have hbl3:badLB f sum l=(sumAt l f != sum):=by rw[hbl.out,hft];rfl
      have HBL:=Lib.hid hbl3
      clear hbl3
      cases hs:(sumAt l f != sum) with
      | true =>
       have HBT:=Lib.hid (HB1.out (HBL.out.trans hs))
       go_wp2
       refine wp_region_S (fun w'=>∃u,w'=over (wr) u) [] [(0,0),(0,1),(0,2),(0,3),(0,4),(0,5),(0,6),(0,7),(0,8),(0,10),(0,11),(1,9),(0,12),(0,13)] (by kernel_rfl) (by kernel_rfl) (by exact ⟨_,below_over (by repeat (first|assumption|exact Below.refl _ _|refine keep_drew ?_|refine keep_alloc ?_ _|refine keep_trans ?_ (by assumption)))⟩) ?_
       dsimp only[pickOps,nthOp]
       repeat (first|(refine wpS_skip rfl (fun K hK=>?_);go_big_quiet_op;refine hK _ ?_;clear hK K)|(refine wpS_quiet rfl rfl (fun K hK=>?_);go_big_quiet_op;refine hK _ ?_;clear hK K)|(refine wpS_loud ?_;go_wp2_with (go_at_call 84;refine (HSM.out _ (keep_drew (Below.refl _ _))).mono ?_;rintro _ w7 ⟨rfl,rfl⟩);refine ⟨?_,?_⟩;focus (exact ⟨_,below_over (by repeat (first|assumption|exact Below.refl _ _|refine keep_drew ?_|refine keep_alloc ?_ _|refine keep_trans ?_ (by assumption)))⟩)))
       refine wpS_end ?_
       go_wp2
       go_ret
       exact ⟨ret_bool HBT.out.symm,hBr.drew⟩
      | false =>
       rw[hs] at HBL
       go_wp2
       refine wp_region_S (fun w'=>∃u,w'=over (wr) u) [] [(0,0),(0,1),(0,2),(0,3),(0,4),(0,5),(0,6),(0,7),(0,8),(0,10),(0,11),(1,9),(0,12),(0,13)] (by kernel_rfl) (by kernel_rfl) (by exact ⟨_,below_over (by repeat (first|assumption|exact Below.refl _ _|refine keep_drew ?_|refine keep_alloc ?_ _|refine keep_trans ?_ (by assumption)))⟩) ?_
       dsimp only[pickOps,nthOp]
       repeat (first|(refine wpS_skip rfl (fun K hK=>?_);go_big_quiet_op;refine hK _ ?_;clear hK K)|(refine wpS_quiet rfl rfl (fun K hK=>?_);go_big_quiet_op;refine hK _ ?_;clear hK K)|(refine wpS_loud ?_;go_wp2_with (go_at_call 84;refine (HSM.out _ (keep_drew (Below.refl _ _))).mono ?_;rintro _ w7 ⟨rfl,rfl⟩);refine ⟨?_,?_⟩;focus (exact ⟨_,below_over (by repeat (first|assumption|exact Below.refl _ _|refine keep_drew ?_|refine keep_alloc ?_ _|refine keep_trans ?_ (by assumption)))⟩)))
       refine wpS_end ?_
       go_wp2
       go_roundw
       case rel=>exact ⟨k+1,by omega,by go_num,upb_snoc hno.out (by rw[HL9.out];exact HBL.out),hbr.drew⟩
       case measure=>simp[intOf];omega
  ·have e:k=n:=by omega
   subst e
   have HBF:=Lib.hid (HW0.out hno.out)
   go_wp2_with fail
   go_ret
   exact ⟨ret_bool HBF.out.symm,hBr⟩
end
section
open Go Go.RowKit
def OkG (g P:List Int):Prop:=OkP (plC [] 0 g) P
theorem OkG.nil (g:List Int):OkG g []:=⟨by simp,fun x hx=>(by cases hx),List.nodup_nil⟩
theorem OkG.len {g P:List Int} (h:OkG g P):P.length≤(openL g).length:=OkP.len h
theorem OkG.num {g P:List Int} (h:OkG g P) (hl:g.length≤256):∀x,x∈P→0≤x∧x≤256:=fun x hx=>by
 have:=mem_unused.1 (OkP.num h x hx)
 have e:(plC [] 0 g).g=g:=rfl
 rw[e] at this
 omega
def gC (cells:Int) (ls:List (List Int)) (sum:Int) (g:List Int):Cst:=⟨cells,none,0,0,ls,sum,none,g.length,0,g,none,0,0,0⟩
theorem gC_fine {cells:Int} {ls:List (List Int)} {sum:Int} {g:List Int} (G:GoodTask cells ls sum g):Fine (gC cells ls sum g):=GoodTask.fine (C:=gC cells ls sum g) G rfl
theorem gC_even {cells:Int} {ls:List (List Int)} {sum:Int} {g:List Int} (G:GoodTask cells ls sum g):Even (gC cells ls sum g):=G.even
end
section
open Go Go.RowKit
structure SolP (C:Cst) (S:List Int):Prop where
 ok:OkP C S
 len:S.length=C.O.length
 right:∀k,k≤C.O.length→wrongB C (S.take k)=false
def Rch (C:Cst) (P:List Int):Prop:=∀k,k<P.length→wrongB C (P.take k)=false
theorem backP_shape {C:Cst}:∀(R P':List Int),backP C R=some P'→∃Q a U z,P'=Q++[a]∧R=U++z :: Q.reverse
 | [],P',h=>by simp[backP] at h
 | x :: R,P',h=>by
  unfold backP at h
  split at h
  ·cases h
   exact ⟨_,_,[],x,rfl,by simp⟩
  ·obtain ⟨Q,a,U,z,h1,h2⟩:=backP_shape R P' h
   exact ⟨Q,a,x :: U,z,h1,by rw[h2];rfl⟩
theorem rch_next {C:Cst} {P P':List Int} (h:Rch C P) (hn:nextP C P=some P'):Rch C P':=by
 unfold nextP at hn
 split at hn
 ·rename_i hc
  cases hn
  intro k hk
  rw[List.length_append,List.length_singleton] at hk
  rcases Nat.lt_or_ge k P.length with h1|h1
  ·rw[List.take_append_of_le_length (by omega)];exact h k h1
  ·rw[show k=P.length from by omega,List.take_left];exact hc.2
 ·obtain ⟨Q,a,U,z,h1,h2⟩:=backP_shape _ _ hn
  have h3:P=Q++z :: U.reverse:=by
   have:=congrArg List.reverse h2
   rw[List.reverse_reverse] at this
   rw[this];simp
  subst h1
  intro k hk
  rw[List.length_append,List.length_singleton] at hk
  rw[List.take_append_of_le_length (by omega)]
  have:=h k (by rw[h3];simp;omega)
  rwa [h3,List.take_append_of_le_length (by omega)] at this
end
section
open Go Go.RowKit
theorem lastN_le (O l:List Int) (m:Nat):∀n,(List.range n).foldl (fun m i=>if hasB l (O[i]?.getD 0)=true then i+1 else m) 0≤m↔∀i,i<n→hasB l (O[i]?.getD 0)=true→i+1≤m
 | 0=>by simp
 | n+1=>by
  rw[List.range_succ,List.foldl_append]
  simp only[List.foldl_cons,List.foldl_nil]
  by_cases h:hasB l (O[n]?.getD 0)=true
  ·rw[if_pos h]
   constructor
   ·intro h1 i hi _;omega
   ·intro h1;exact h1 n (by omega) h
  ·rw[if_neg h,lastN_le O l m n]
   constructor
   ·intro h1 i hi h2
    by_cases e:i=n
    ·subst e;exact absurd h2 h
    ·exact h1 i (by omega) h2
   ·intro h1 i hi h2;exact h1 i (by omega) h2
theorem fillG_openT (g P:List Int) (hP:P.length≤(openL g).length):∀n,n≤P.length→∀i,i<(openL g).length→(fillG g (P.take n))[((openL g)[i]?.getD 0).toNat]?.getD 0=(P.take n)[i]?.getD 0
 | 0,_,i,hi=>by
  obtain ⟨x,h1,_,h3⟩:=open_lt hi
  rw[List.take_zero]
  have e:fillG g []=g:=by unfold fillG;rw[List.zip_nil_right];rfl
  rw[e,h1,Int.toNat_natCast,h3];rfl
 | n+1,hn,i,hi=>by
  have ih:=fillG_openT g P hP n (by omega) i hi
  have hl:(P.take n).length=n:=by rw[List.length_take];omega
  rw[take_snoc P 0 n (by omega),fillG_snoc g _ _ (by rw[hl];omega),hl]
  obtain ⟨x,h1,h2,_⟩:=open_lt (g:=g) (k:=n) (by omega)
  obtain ⟨y,k1,_,_⟩:=open_lt hi
  rw[h1,Int.toNat_natCast]
  by_cases e:i=n
  ·subst e
   rw[h1,Int.toNat_natCast,List.getElem?_set_self (by rw[fillG_len];exact h2),List.getElem?_append_right (by omega),hl]
   simp
  ·have hne:x≠y:=by
    intro e2
    have hn':n<(openL g).length:=by omega
    rw[List.getElem?_eq_getElem hi] at k1
    rw[List.getElem?_eq_getElem hn'] at h1
    simp only[Option.getD_some] at k1 h1
    have h5:(openL g)[i]=(openL g)[n]:=by rw[k1,h1,e2]
    exact e ((List.getElem_inj (open_nodup g)).1 h5)
   rw[k1,Int.toNat_natCast,List.getElem?_set_ne hne]
   rw[k1,Int.toNat_natCast] at ih
   rw[ih]
   rcases Nat.lt_or_ge i n with h6|h6
   ·rw[List.getElem?_append_left (by omega)]
   ·rw[List.getElem?_eq_none (by omega),List.getElem?_eq_none (by simp;omega)]
theorem fillG_open (g P:List Int) (hP:P.length≤(openL g).length) (i:Nat) (hi:i<(openL g).length):(fillG g P)[((openL g)[i]?.getD 0).toNat]?.getD 0=P[i]?.getD 0:=by
 have:=fillG_openT g P hP P.length (Nat.le_refl _) i hi
 rwa [List.take_length] at this
theorem zip_fst {α β:Type} {x:α × β}:∀{O:List α} {P:List β},x∈O.zip P→x.1∈O
 | [],_,h=>by simp at h
 | _ :: _,[],h=>by simp at h
 | o :: O,p :: P,h=>by
  rw[List.zip_cons_cons,List.mem_cons] at h
  rcases h with h|h
  ·rw[h];exact List.mem_cons_self
  ·exact List.mem_cons_of_mem _ (zip_fst h)
theorem fillG_given (g P:List Int) (c:Nat) (h:g[c]?.getD 0≠0):(fillG g P)[c]?.getD 0=g[c]?.getD 0:=by
 unfold fillG
 rw[foldl_set_other]
 intro x hx e
 have h1:=mem_open.1 (zip_fst hx)
 rw[e] at h1
 exact h h1.2.2
theorem fillG_cell {cells:Int} {ls:List (List Int)} {sum:Int} {g:List Int} (G:GoodTask cells ls sum g) {P:List Int} (ho:OkG g P) {c:Int} (h0:0≤c) (h1:c<cells) :
  (0<(fillG g P)[c.toNat]?.getD 0↔∀i,i<(openL g).length→(openL g)[i]?.getD 0=c→i<P.length):=by
 have hgl:=G.len
 have hpl:=ho.len
 by_cases hg:g[c.toNat]?.getD 0=0
 ·have hm:c∈openL g:=mem_open.2 ⟨h0,by omega,hg⟩
  obtain ⟨i,hi,e⟩:=List.getElem_of_mem hm
  have e2:(openL g)[i]?.getD 0=c:=by rw[List.getElem?_eq_getElem hi];exact e
  have h2:=fillG_open g P hpl i hi
  rw[e2] at h2
  rw[h2]
  constructor
  ·intro h3 j hj hje
   have:j=i:=by
    rw[List.getElem?_eq_getElem hj] at hje
    exact (List.getElem_inj (open_nodup g)).1 ((by simpa using hje:(openL g)[j]=c).trans e.symm)
   subst this
   rcases Nat.lt_or_ge j P.length with h4|h4
   ·exact h4
   ·rw[List.getElem?_eq_none h4] at h3;exact absurd h3 (by decide)
  ·intro h3
   have h4:=h3 i hi e2
   rw[List.getElem?_eq_getElem h4,Option.getD_some]
   have:=mem_unused.1 (OkP.num ho _ (List.getElem_mem h4))
   omega
 ·rw[fillG_given g P _ hg]
  have h2:=G.num c.toNat (by omega)
  refine ⟨fun _ i hi e=>?_,fun _=>by omega⟩
  have h3:=mem_open.1 (List.getElem_mem hi)
  rw[List.getElem?_eq_getElem hi,Option.getD_some] at e
  rw[e] at h3
  exact absurd h3.2.2 hg
theorem full_last {cells:Int} {ls:List (List Int)} {sum:Int} {g:List Int} (G:GoodTask cells ls sum g) {P:List Int} (ho:OkG g P) {l:List Int} (hl:l∈ls):flTo (fillG g P) l l.length=true↔lastO (openL g) l≤P.length:=by
 unfold flTo lastO
 rw[List.take_length,lastN_le,List.all_eq_true]
 have hr:=(G.lineLen hl).2
 constructor
 ·intro h i hi hb
  have hm:=hasB_iff.1 hb
  have h1:=h _ hm
  have h2:=hr _ hm
  have:=(fillG_cell G ho h2.1 h2.2).1 (by simpa using h1) i hi rfl
  omega
 ·intro h c hc
  have h2:=hr c hc
  have:=(fillG_cell G ho h2.1 h2.2).2 (fun i hi e=>by
   have:=h i hi (by rw[e];exact hasB_iff.2 hc)
   omega)
  simpa using this
theorem sum_prefix {cells:Int} {ls:List (List Int)} {sum:Int} {g:List Int} (G:GoodTask cells ls sum g) {P:List Int} (ho:OkG g P) {l:List Int} (hl:l∈ls) {k:Nat} (hk:lastO (openL g) l≤k) (hkp:k≤P.length):sumAt l (fillG g (P.take k))=sumAt l (fillG g P):=by
 unfold sumAt
 congr 1
 apply List.map_congr_left
 intro c hc
 have hr:=(G.lineLen hl).2 c hc
 have hgl:=G.len
 have hpl:=ho.len
 by_cases hg:g[c.toNat]?.getD 0=0
 ·have hm:c∈openL g:=mem_open.2 ⟨hr.1,by omega,hg⟩
  obtain ⟨i,hi,e⟩:=List.getElem_of_mem hm
  have e2:(openL g)[i]?.getD 0=c:=by rw[List.getElem?_eq_getElem hi];exact e
  have h1:=fillG_open g (P.take k) (by rw[List.length_take];omega) i hi
  have h2:=fillG_open g P hpl i hi
  rw[e2] at h1 h2
  have h3:i+1≤k:=by
   unfold lastO at hk
   exact (lastN_le _ _ _ _).1 hk i hi (by rw[e2];exact hasB_iff.2 hc)
  rw[h1,h2,List.getElem?_take,if_pos (by omega)]
 ·rw[fillG_given g _ _ hg,fillG_given g _ _ hg]
end
end Go.Proofs.YtcblpobiefmjmaaGreat
