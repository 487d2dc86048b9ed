/- Texts U8 to B2 of this proof, in one file. -/
import Derived.Test.YtaadpihbjhachaaGreatW01
import Derived.Test.YtaadpihbjhachaaGreatW04
import Derived.Test.YtaadpihbjhachaaGreatW10
import Derived.Test.YtaadpihbjhachaaGreatW11
import Derived.Test.YtaadpihbjhachaaGreatW12
import Derived.Test.YtaadpihbjhachaaGreatW18
import Derived.Test.YtaadpihbjhachaaGreatW19
namespace Go.Proofs.YtaadpihbjhachaaGreat
set_option maxRecDepth 100000
set_option maxHeartbeats 16000000
section
open Go Go.RowKit
attribute [local go_sem] over_cell
attribute [local go_sem] Oper.semAt_some
theorem norm_num {f:List Int} (h:normB f=true) (hn:f.length≤256):∀c:Nat,0≤f[c]?.getD 0∧f[c]?.getD 0≤1000000000:=by
 intro c
 by_cases hc:c<f.length
 ·have h1:f[c]?.getD 0∈srt f:=srt_mem.2 (by rw[List.getElem?_eq_getElem hc];exact List.getElem_mem _)
  obtain ⟨k,hk,e⟩:=List.getElem_of_mem h1
  have hl:=srt_len f
  have h2:=srt_norm h k (by omega)
  rw[List.getElem?_eq_getElem hk,Option.getD_some,e] at h2
  omega
 ·rw[List.getElem?_eq_none (by omega)];decide
def fitB (ls:List (List Int)) (sum:Int) (g f:List Int):Bool:=(List.range f.length).all (extAt g f)&&ls.all fun l=>sumAt l f==sum
theorem fits1_c (a:Option Addr) (n c:Nat) (l:List Int) (af:Option Addr) (nf cf:Nat) (f:List Int) (sum:Int) (B3 B2:Nat) (w:World) (h:IC w a n l) (hf:IC w af nf f) (hn:n≤1000) (hl:∀k,k<n→0≤l[k]?.getD 0∧l[k]?.getD 0<(nf:Int)) (hfb:∀c:Nat,0≤f[c]?.getD 0∧f[c]?.getD 0≤1000000000)
  (h3:w.cell? ⟨B3,0,none⟩=some (.slice af nf cf)) (h2:w.cell? ⟨B2,1+1,none⟩=some (.int .i64 sum)) (hb3:B3<w.heap.size) (hb2:B2<w.heap.size) :
  Calls Tryz.prog 144 #[.slice a n c,.pointer (some ⟨B3,0,none⟩),.pointer (some ⟨B2,0,none⟩)] w fun e w'=>e = .returned (.bool (sumAt l f != sum))∧Below w.heap.size w w':=by
 have HS:=Lib.hid (fun W (hb:Below w.heap.size w W)=>sum_c a af n nf c cf l f W (h.mono hb) (hf.mono hb) hn hl hfb)
 have h2':w.cell? ⟨B2,2,none⟩=some (.int .i64 sum):=h2
 clear h hf hl hfb h2
 generalize sumAt l f=s at HS ⊢
 go_enter Tryz.func144,Tryz.ntmps144
 go_wp2_with fail
 refine wp_region_S (fun w'=>∃u,w'=over (w) u) [6] [(0,0),(0,1),(0,3),(0,4),(1,2),(0,5),(2,6)] (by kernel_rfl) (by kernel_rfl) (by exact ⟨_,below_over (by repeat (first|assumption|exact Below.refl _ _|refine keep_drew ?_|refine keep_alloc ?_ _|refine keep_trans ?_ (by assumption)))⟩) ?_
 dsimp only[pickOps,nthOp]
 repeat (first|(refine wpS_skip rfl (fun K hK=>?_);go_big_quiet_op;refine hK _ ?_;clear hK K)|(refine wpS_quiet rfl rfl (fun K hK=>?_);go_big_quiet_op;refine hK _ ?_;clear hK K)|(refine wpS_loud ?_;go_wp2_with ((go_at_call 145;refine (HS.out _ (keep_drew (Below.refl _ _))).mono ?_;rintro _ w1 ⟨rfl,rfl⟩));refine ⟨?_,?_⟩;focus (exact ⟨_,below_over (by repeat (first|assumption|exact Below.refl _ _|refine keep_drew ?_|refine keep_alloc ?_ _|refine keep_trans ?_ (by assumption)))⟩)))
 refine wpS_late _ _ _ rfl ?_
 dsimp only[List.map]
 go_wp2_with ((go_at_call 145;refine (HS.out _ (keep_drew (Below.refl _ _))).mono ?_;rintro _ w1 ⟨rfl,rfl⟩))
 refine NoPanic.normal ?_
 go_wp2_with fail
 go_ret
 exact ⟨rfl,(Below.refl _ _).drew⟩
theorem fits1_fn:∀(args:Array Value) (w:World),Sem.run Tryz.prog (callFunc 144 args) w = .ok (.enter 144 args) w:=by
 intro args w;kernel_rfl
theorem anyP_sum (ls:List (List Int)) (f:List Int) (sum:Int):(!anyP (fun k=>sumAt (ls[k]?.getD []) f != sum) ls.length)=ls.all fun l=>sumAt l f==sum:=by
 rw[Bool.eq_iff_iff,Bool.not_eq_true',List.all_eq_true]
 unfold anyP
 rw[List.any_eq_false]
 constructor
 ·intro h l hl
  obtain ⟨k,hk,e⟩:=List.getElem_of_mem hl
  have:=h k (by simpa using hk)
  rw[List.getElem?_eq_getElem hk,Option.getD_some,e] at this
  simpa using this
 ·intro h k hk
  rw[List.mem_range] at hk
  have:=h (ls[k]?.getD []) (by rw[List.getElem?_eq_getElem hk];exact List.getElem_mem _)
  simp only[beq_iff_eq] at this
  simp[this]
theorem fits_c {cells:Int} {ls:List (List Int)} {sum:Int} {g:List Int} (G:GoodTask cells ls sum g) (a:Option Addr) (n c:Nat) (a':Option Addr) (n' c':Nat) (af:Option Addr) (cf:Nat) (f:List Int) (w:World) (h:RC w a n ls) (h':IC w a' n' g) (hf:IC w af n' f) (hn:normB f=true) :
  Calls Tryz.prog 70 #[.agg #[.int .i64 cells,.slice a n c,.int .i64 sum,.slice a' n' c'],.slice af n' cf] w fun e w'=>e = .returned (.bool (fitB ls sum g f))∧Below w.heap.size w w':=by
 have hn256:n'≤256:=by have:=G.glen;have:=h'.len;omega
 have hfl:=hf.len
 have hns:=h.small
 have HFB:=Lib.hid (norm_num hn (by omega))
 have HLN:Hid (∀k,k<n→(ls[k]?.getD []).length≤1000∧∀x,x∈ls[k]?.getD []→0≤x∧x<(n':Int)):=fun k hk=>by
  have hk2:k<ls.length:=by rw[h.len];exact hk
  rw[List.getElem?_eq_getElem hk2,Option.getD_some]
  have h1:=G.lineLen (List.getElem_mem hk2)
  have h2:=G.len
  have h3:=h'.len
  exact ⟨h1.1,fun x hx=>by have:=h1.2 x hx;omega⟩
 have HE:Hid (fitB ls sum g f=((List.range n').all (extAt g f)&&!anyP (fun k=>sumAt (ls[k]?.getD []) f != sum) n)):=by unfold Hid fitB;rw[hfl,← anyP_sum,h.len]
 have HM:Hid (∀k,k<n'→extAt g f k=false→(List.range n').all (extAt g f)=false):=fun k hk e=>all_miss hk e
 have HD:Hid ((∀k,k<n'→extAt g f k=true)→(List.range n').all (extAt g f)=true):=fun e=>all_end e
 have H:=Lib.hid h
 have H':=Lib.hid h'
 have HF:=Lib.hid hf
 clear h h' hf hn G hfl
 generalize fitB ls sum g f=fb at HE ⊢
 generalize (List.range n').all (extAt g f)=eb at HE HM HD
 go_enter Tryz.func70,Tryz.ntmps70
 go_wp2_with fail
 have fsz:((w.alloc (.cells #[.int .i64 cells,.slice a n c,.int .i64 sum,.slice a' n' c'] 27)).alloc (.cells #[.slice af n' cf] 25)).heap.size=w.heap.size+2:=by simp only[World.size_alloc] <;> omega
 have fB:Below w.heap.size w ((w.alloc (.cells #[.int .i64 cells,.slice a n c,.int .i64 sum,.slice a' n' c'] 27)).alloc (.cells #[.slice af n' cf] 25)):=((Below.refl _ _).alloc (Nat.le_refl _) _).alloc (by simp only[World.size_alloc];omega) _
 have fq0:((w.alloc (.cells #[.int .i64 cells,.slice a n c,.int .i64 sum,.slice a' n' c'] 27)).alloc (.cells #[.slice af n' cf] 25)).heap[w.heap.size]?=some (.cells #[.int .i64 cells,.slice a n c,.int .i64 sum,.slice a' n' c'] 27 (0,0)):=by have h:=World.alloc_heap_new w (.cells #[.int .i64 cells,.slice a n c,.int .i64 sum,.slice a' n' c'] 27);exact (Below.heap_alloc _ _ _ (by simp only[World.size_alloc];omega)).trans (h)
 have fq1:((w.alloc (.cells #[.int .i64 cells,.slice a n c,.int .i64 sum,.slice a' n' c'] 27)).alloc (.cells #[.slice af n' cf] 25)).heap[w.heap.size+1]?=some (.cells #[.slice af n' cf] 25 (0,0)):=by have h:=World.alloc_heap_new (w.alloc (.cells #[.int .i64 cells,.slice a n c,.int .i64 sum,.slice a' n' c'] 27)) (.cells #[.slice af n' cf] 25);simp only[World.size_alloc] at h;exact h
 generalize ((w.alloc (.cells #[.int .i64 cells,.slice a n c,.int .i64 sum,.slice a' n' c'] 27)).alloc (.cells #[.slice af n' cf] 25))=W0 at fsz fB fq0 fq1 ⊢
 obtain ⟨x0,x1,x2,x3,xl⟩:=l4 fq0
 have y0:W0.cell? ⟨w.heap.size+1,0,none⟩=some (.slice af n' cf):=q_cell fq1 0
 have yl:=q_lt fq1
 have HG0:=Lib.hid (H'.out.mono fB)
 have HF0:=Lib.hid (HF.out.mono fB)
 have HC:Hid (Calls Tryz.prog 137 #[.slice a n c,.func (.func 144) #[] #[.pointer (some ⟨w.heap.size+1,0,none⟩),.pointer (some ⟨w.heap.size,0,none⟩)]] W0 fun e w'=>e = .returned (.bool (anyP (fun k=>sumAt (ls[k]?.getD []) f != sum) n))∧Below W0.heap.size W0 w'):=containsFuncR_c a n c ls _ _ _ W0 (H.out.mono fB) fits1_fn (fun k hk W a1 n1 c1 hb hic _=>by
  have hln:=HLN.out k hk
  have hl1:=hic.len
  exact fits1_c a1 n1 c1 _ af n' cf f sum _ _ W hic (HF0.out.mono hb) (by omega) (fun j hj=>hln.2 _ (by rw[List.getElem?_eq_getElem (show j<(ls[k]?.getD []).length by omega)];exact List.getElem_mem _)) HFB.out (q_cell (keepq hb fq1) 0) (q_cell (keepq hb fq0) 2) (q_lt (keepq hb fq1)) (q_lt (keepq hb fq0)))
 generalize anyP (fun k=>sumAt (ls[k]?.getD []) f != sum) n=ab at HC HE
 clear fq0 fq1 fsz
 go_wp2_with fail
 go_loop [5,6,10] (fun _ _ iv=>∃k:Nat,k≤n'∧iv = .int .i64 k∧Hid (∀j,j<k→extAt g f j=true)) (fun _ _ iv=>n' - (intOf iv).toNat)
 case atStart=>exact ⟨0,by omega,rfl,fun j hj=>absurd hj (by omega)⟩
 case round =>
  obtain ⟨k,hk,rfl,hno⟩:=hrel
  by_cases hlt:k<n'
  ·have hki:(k:Int)<(n':Int):=by omega
   obtain ⟨b1,o1,rfl,hb1,hc1⟩:=HG0.out.2 k hlt
   obtain ⟨b2,o2,rfl,hb2,hc2⟩:=HF0.out.2 k hlt
   have HX:Hid (extAt g f k=!(decide (0<g[k]?.getD 0)&&g[k]?.getD 0 != f[k]?.getD 0)):=rfl
   have HMk:=Lib.hid (HM.out k hlt)
   have HSN:Hid (extAt g f k=true→∀j,j<k+1→extAt g f j=true):=fun e=>upt_snoc hno.out e
   generalize extAt g f k=ev at HX HMk HSN
   generalize g[k]?.getD 0=x at hc1 HX
   generalize f[k]?.getD 0=y at hc2 HX
   by_cases hx:0<x
   ·have hxd:decide (0<x)=true:=decide_eq_true hx
    rw[hxd,Bool.true_and] at HX
    cases hxy:(x != y) with
    | true =>
     rw[hxy] at HX
     have HEB:=Lib.hid (HMk.out HX.out)
     go_wp2_with fail
     go_ret
     exact ⟨ret_bool (by rw[HE.out,HEB.out];rfl),fB⟩
    | false =>
     rw[hxy] at HX
     go_wp2_with fail
     go_round
     case rel=>exact ⟨k+1,by omega,by go_num,HSN.out HX.out⟩
     case measure=>simp[intOf];omega
   ·have hxd:decide (0<x)=false:=decide_eq_false hx
    rw[hxd,Bool.false_and] at HX
    go_wp2_with fail
    go_round
    case rel=>exact ⟨k+1,by omega,by go_num,HSN.out HX.out⟩
    case measure=>simp[intOf];omega
  ·have hki:¬(k:Int)<(n':Int):=by omega
   have HEB:=Lib.hid (HD.out (fun j hj=>hno.out j (by omega)))
   go_wp2_with (first|(go_at_call 137;refine HC.out.mono ?_;rintro _ w1 ⟨rfl,hb1⟩))
   go_ret
   exact ⟨ret_bool (by rw[HE.out,HEB.out];rfl),keep_trans fB hb1⟩
def solE (cells:Int) (ls:List (List Int)) (sum:Int) (g f:List Int):Int:=if taskErr cells ls sum g≠0 then taskErr cells ls sum g else fillE cells f
def isV (cells:Int) (ls:List (List Int)) (sum:Int) (g f:List Int):Bool:=if solE cells ls sum g f≠0 then false else solB ls sum g f
theorem fsol_c (a:Option Addr) (n c:Nat) (ls:List (List Int)) (cells sum:Int) (a':Option Addr) (n' c':Nat) (g:List Int) (af:Option Addr) (nf cf:Nat) (f:List Int) (w:World) (h:RC w a n ls) (hcap:n≤c) (h':IC w a' n' g) (hcap':n'≤c') (hf:IC w af nf f) :
  Calls Tryz.prog 16 #[.agg #[.int .i64 cells,.slice a n c,.int .i64 sum,.slice a' n' c'],.slice af nf cf] w fun e w'=>e = .returned (.tuple #[.bool (isV cells ls sum g f),.int .i64 (solE cells ls sum g f)])∧Below w.heap.size w w':=by
 have HT:=Lib.hid (fun W (hb:Below w.heap.size w W)=>task_c a n c ls cells sum a' n' c' g W (h.mono hb) hcap (h'.mono hb) hcap')
 have HE:Hid (solE cells ls sum g f=if taskErr cells ls sum g≠0 then taskErr cells ls sum g else fillE cells f):=rfl
 have HV:Hid (isV cells ls sum g f=if solE cells ls sum g f≠0 then false else solB ls sum g f):=rfl
 have HSU:Hid (taskErr cells ls sum g=0→∀W,Below w.heap.size w W→Calls Tryz.prog 68 #[.agg #[.int .i64 cells,.slice a n c],.slice af nf cf] W fun e w'=>(∃v,e = .returned (.tuple #[v,.int .i64 (fillE cells f)]))∧Below W.heap.size W w'):=fun e W hb=>by
  have G:=goodTask e
  have hsy:sysErr cells ls=0:=by
   unfold taskErr at e
   by_cases hs:sysErr cells ls=0
   ·exact hs
   ·rw[if_pos hs] at e;exact absurd e hs
  have hn:n≤128:=by
   unfold sysErr at hsy
   have:=h.len
   split at hsy
   ·cases hsy
   ·split at hsy
    ·cases hsy
    ·omega
  exact lSums_c a n c ls cells af nf cf f W (h.mono hb) hcap (hf.mono hb) hn hsy (fun l hl=>G.lineLen hl)
 have HNO:Hid (taskErr cells ls sum g=0→fillE cells f=0→nf=n'∧∀W,Below w.heap.size w W→Calls Tryz.prog 69 #[.slice af nf cf] W fun e w'=>e = .returned (.tuple #[.bool (normB f),.int .i64 0])∧Below W.heap.size W w'):=fun e e2=>by
  have G:=goodTask e
  have h1:=G.len
  have h2:=G.cells1
  have h3:=G.cells2
  have h4:=h'.len
  have h5:=hf.len
  unfold fillE at e2
  by_cases hc:(f.length:Int)=cells
  ·rw[if_neg (fun h=>h hc)] at e2
   exact ⟨by omega,fun W hb=>lnorm_c af nf cf f W (hf.mono hb) (by omega) (by omega) e2⟩
  ·rw[if_pos hc] at e2;cases e2
 have HFI:Hid (taskErr cells ls sum g=0→nf=n'→normB f=true→∀W,Below w.heap.size w W→Calls Tryz.prog 70 #[.agg #[.int .i64 cells,.slice a n c,.int .i64 sum,.slice a' n' c'],.slice af nf cf] W fun e w'=>e = .returned (.bool (fitB ls sum g f))∧Below W.heap.size W w'):=fun e e2 e3 W hb=>by
  subst e2
  exact fits_c (goodTask e) a n c a' nf c' af cf f W (h.mono hb) (h'.mono hb) (hf.mono hb) e3
 have HSB:Hid (solB ls sum g f=(normB f&&fitB ls sum g f)):=rfl
 clear h h' hf
 generalize isV cells ls sum g f=sv at HV ⊢
 generalize solE cells ls sum g f=se at HE HV ⊢
 generalize solB ls sum g f=sb at HV HSB
 generalize fitB ls sum g f=ft at HFI HSB
 generalize normB f=nb at HNO HFI HSB
 generalize fillE cells f=fe at HE HSU HNO
 generalize taskErr cells ls sum g=te at HT HE HSU HNO HFI
 go_enter Tryz.func16,Tryz.ntmps16
 go_wp2_with fail
 have fsz:(w.alloc (.cells #[.int .i64 cells,.slice a n c,.int .i64 sum,.slice a' n' c'] 27)).heap.size=w.heap.size+1:=by simp only[World.size_alloc]
 have fB:Below w.heap.size w (w.alloc (.cells #[.int .i64 cells,.slice a n c,.int .i64 sum,.slice a' n' c'] 27)):=(Below.refl _ _).alloc (Nat.le_refl _) _
 have fq0:(w.alloc (.cells #[.int .i64 cells,.slice a n c,.int .i64 sum,.slice a' n' c'] 27)).heap[w.heap.size]?=some (.cells #[.int .i64 cells,.slice a n c,.int .i64 sum,.slice a' n' c'] 27 (0,0)):=by have h:=World.alloc_heap_new w (.cells #[.int .i64 cells,.slice a n c,.int .i64 sum,.slice a' n' c'] 27);exact h
 generalize (w.alloc (.cells #[.int .i64 cells,.slice a n c,.int .i64 sum,.slice a' n' c'] 27))=W0 at fsz fB fq0 ⊢
 have HX:=Lib.hid (fun W (hb:Below W0.heap.size W0 W)=>l4 (keepq hb fq0))
 have hcur:Below W0.heap.size W0 W0:=Below.refl _ _
 obtain ⟨x0,x1,x2,x3,xl⟩:=HX.out _ hcur
 clear fq0 fsz
 go_wp2_with fail
 refine (HT.out _ (keep_trans fB hcur)).mono ?_
 rintro _ w1 ⟨rfl,hb1⟩
 replace hcur:=keep_trans hcur hb1
 clear x0 x1 x2 x3 xl
 obtain ⟨x0,x1,x2,x3,xl⟩:=HX.out _ hcur
 by_cases ht:te=0
 ·rw[ht,if_neg (by decide)] at HE
  have HSU2:=Lib.hid (HSU.out ht)
  have HNO2:=Lib.hid (HNO.out ht)
  have HFI2:=Lib.hid (HFI.out ht)
  clear HSU HNO HFI
  subst ht
  go_wp2_with fail
  refine (HSU2.out _ (keep_trans fB hcur)).mono ?_
  rintro _ w1 ⟨⟨v,rfl⟩,hb1⟩
  replace hcur:=keep_trans hcur hb1
  clear x0 x1 x2 x3 xl
  obtain ⟨x0,x1,x2,x3,xl⟩:=HX.out _ hcur
  by_cases hfe:fe=0
  ·rw[hfe] at HE
   obtain ⟨hnf,HN3⟩:=HNO2.out hfe
   have HN3:=Lib.hid HN3
   rw[HE.out,if_neg (by decide)] at HV
   have HFI3:=Lib.hid (HFI2.out hnf)
   have HSE:=Lib.hid HE.out
   clear HNO2 HFI2 HSU2 hnf
   subst hfe
   go_wp2_with fail
   refine (HN3.out _ (keep_trans fB hcur)).mono ?_
   rintro _ w1 ⟨rfl,hb1⟩
   replace hcur:=keep_trans hcur hb1
   clear x0 x1 x2 x3 xl
   obtain ⟨x0,x1,x2,x3,xl⟩:=HX.out _ hcur
   cases nb with
   | false =>
    go_wp2_with fail
    go_ret2
    exact ⟨by rw[HSE.out,HV.out,HSB.out];rfl,keep_trans fB hcur⟩
   | true =>
    have HFI4:=Lib.hid (HFI3.out rfl)
    go_wp2_with fail
    refine (HFI4.out _ (keep_trans fB hcur)).mono ?_
    rintro _ w1 ⟨rfl,hb1⟩
    replace hcur:=keep_trans hcur hb1
    go_wp2_with fail
    go_ret2
    exact ⟨by rw[HSE.out,HV.out,HSB.out];rfl,keep_trans fB hcur⟩
  ·have hne:(fe != 0)=true:=by simpa using hfe
   rw[HE.out,if_pos hfe] at HV
   clear HNO2 HFI2 HSU2 hfe
   go_wp2_with fail
   go_ret2
   exact ⟨by rw[HE.out,HV.out];rfl,keep_trans fB hcur⟩
 ·have hne:(te != 0)=true:=by simpa using ht
  rw[if_pos ht] at HE
  rw[HE.out,if_pos ht] at HV
  clear HSU HNO HFI ht
  go_wp2_with fail
  go_ret2
  exact ⟨by rw[HE.out,HV.out];rfl,keep_trans fB hcur⟩
end
section
end
section
def putAll (ps:List (Nat × Int)) (l:List Int):List Int:=ps.foldl (fun l p=>l.set p.1 p.2) l
theorem putAll_len {ps:List (Nat × Int)} {l:List Int}:(putAll ps l).length=l.length:=by
 unfold putAll
 induction ps generalizing l with
 | nil=>rfl
 | cons p ps ih=>rw[List.foldl_cons,ih,List.length_set]
theorem putAll_snoc {ps:List (Nat × Int)} {p:Nat × Int} {l:List Int}:putAll (ps++[p]) l=(putAll ps l).set p.1 p.2:=by
 unfold putAll
 rw[List.foldl_append]
 rfl
theorem putAll_get:∀{ps:List (Nat × Int)} {a:List Int} {p:Nat × Int},(ps.map (·.1)).Nodup→p∈ps→p.1<a.length→(putAll ps a)[p.1]?=some p.2:=by
 intro ps
 induction ps with
 | nil=>intro a p _ h;cases h
 | cons q ps ih =>
  intro a p hn hp hl
  rw[List.map_cons,List.nodup_cons] at hn
  show (putAll ps (a.set q.1 q.2))[p.1]?=some p.2
  rcases List.mem_cons.1 hp with rfl|hp
  ·have hno:∀{qs:List (Nat × Int)} {b:List Int},p.1 ∉ qs.map (·.1)→(putAll qs b)[p.1]?=b[p.1]?:=by
    intro qs
    induction qs with
    | nil=>intro b _;rfl
    | cons r qs ih2 =>
     intro b h
     rw[List.map_cons,List.mem_cons] at h
     show (putAll qs (b.set r.1 r.2))[p.1]?=b[p.1]?
     rw[ih2 (fun h2=>h (Or.inr h2)),List.getElem?_set,if_neg (fun e=>h (Or.inl e.symm))]
   rw[hno hn.1,List.getElem?_set,if_pos rfl,if_pos hl]
  ·exact ih hn.2 hp (by rw[List.length_set];exact hl)
end
section
open Go Go.RowKit
def badP (p:List Int) (k:Nat):Bool:=decide (p[k]?.getD 0<0)||(decide ((p.length:Int)≤p[k]?.getD 0)||hasB (p.take k) (p[k]?.getD 0))
def permB (p:List Int):Bool:=!(List.range p.length).any (badP p)
def permE (p:List Int):Int:=if 256<p.length then 5 else if permB p=true then 0 else 14
theorem permB_miss {p:List Int} {k:Nat} (hk:k<p.length) (h:badP p k=true):permB p=false:=by
 unfold permB
 rw[Bool.not_eq_false',List.any_eq_true]
 exact ⟨k,by simpa using hk,h⟩
theorem permB_end {p:List Int} (h:∀k,k<p.length→badP p k=false):permB p=true:=by
 unfold permB
 rw[Bool.not_eq_true',List.any_eq_false]
 intro k hk
 rw[h k (by simpa using hk)]
 decide
structure PermP (p:List Int):Prop where
 num:∀k,k<p.length→0≤p[k]?.getD 0∧p[k]?.getD 0<(p.length:Int)
 inj:∀i j,i<p.length→j<p.length→p[i]?.getD 0=p[j]?.getD 0→i=j
theorem perm_of {p:List Int} (h:permB p=true):PermP p:=by
 have hb:∀k,k<p.length→badP p k=false:=fun k hk=>by
  unfold permB at h
  rw[Bool.not_eq_true',List.any_eq_false] at h
  have:=h k (by simpa using hk)
  simpa using this
 have ha:∀i j,i<j→j<p.length→p[i]?.getD 0≠p[j]?.getD 0:=fun i j hij hj e=>by
  have h2:=hb j hj
  unfold badP at h2
  simp only[Bool.or_eq_false_iff] at h2
  have h3:hasB (p.take j) (p[j]?.getD 0)=true:=by
   unfold hasB
   rw[List.contains_iff_mem,← e,List.getElem?_eq_getElem (by omega)]
   exact List.mem_take_iff_getElem.2 ⟨i,by omega,rfl⟩
  rw[h3] at h2
  exact absurd h2.2.2 (by decide)
 refine ⟨fun k hk=>?_,fun i j hi hj e=>?_⟩
 ·have h2:=hb k hk
  unfold badP at h2
  simp only[Bool.or_eq_false_iff,decide_eq_false_iff_not] at h2
  omega
 ·rcases Nat.lt_trichotomy i j with h1|h1|h1
  ·exact absurd e (ha i j h1 hj)
  ·exact h1
  ·exact absurd e.symm (ha j i h1 hi)
theorem perm_ok {p:List Int} (h:permE p=0):p.length≤256∧PermP p:=by
 unfold permE at h
 by_cases h1:256<p.length
 ·rw[if_pos h1] at h;cases h
 ·rw[if_neg h1] at h
  by_cases h2:permB p=true
  ·exact ⟨by omega,perm_of h2⟩
  ·rw[if_neg h2] at h;cases h
theorem onto_of {α:Type} [BEq α] [LawfulBEq α]:∀(l1 l2:List α),l1.Nodup→(∀x,x∈l1→x∈l2)→l2.length≤l1.length→∀y,y∈l2→y∈l1
 | [],l2,_,_,hl,y,hy=>by
  have:l2=[]:=List.eq_nil_of_length_eq_zero (by simpa using hl)
  rw[this] at hy
  exact hy
 | a :: l1,l2,hn,hs,hl,y,hy=>by
  rw[List.nodup_cons] at hn
  by_cases e:y=a
  ·rw[e];exact List.mem_cons_self
  ·refine List.mem_cons_of_mem _ (onto_of l1 (l2.erase a) hn.2 (fun x hx=>?_) ?_ y ((List.mem_erase_of_ne e).2 hy))
   ·exact (List.mem_erase_of_ne (fun e2=>hn.1 (by rw[← e2];exact hx))).2 (hs x (List.mem_cons_of_mem _ hx))
   ·rw[List.length_erase_of_mem (hs a List.mem_cons_self)]
    simp only[List.length_cons] at hl
    omega
theorem nodup_leG {α:Type} [BEq α] [LawfulBEq α]:∀{l m:List α},l.Nodup→(∀x,x∈l→x∈m)→l.length≤m.length
 | [],m,_,_=>Nat.zero_le _
 | x :: l,m,hn,hs=>by
  rw[List.nodup_cons] at hn
  have hx:=hs x List.mem_cons_self
  have h:=nodup_leG (m:=m.erase x) hn.2 (fun y hy=>(List.mem_erase_of_ne (fun e=>hn.1 (by rw[← e];exact hy))).2 (hs y (List.mem_cons_of_mem _ hy)))
  have h2:=List.length_erase_of_mem hx
  have h3:=List.length_pos_of_mem hx
  simp only[List.length_cons]
  omega
theorem get_mem {l:List Int} {i:Nat} (h:i<l.length):l[i]?.getD 0∈l:=by rw[List.getElem?_eq_getElem h];exact List.getElem_mem h
theorem PermP.nodup {p:List Int} (h:PermP p):p.Nodup:=by
 unfold List.Nodup
 rw[List.pairwise_iff_getElem]
 intro i j hi hj hij e
 have:=h.inj i j hi hj (by rw[List.getElem?_eq_getElem hi,List.getElem?_eq_getElem hj,e])
 omega
theorem PermP.onto {p:List Int} (h:PermP p) {j:Nat} (hj:j<p.length):∃i,i<p.length∧p[i]?.getD 0=(j:Int):=by
 have h1:=onto_of p ((List.range p.length).map fun (i:Nat)=>(i:Int)) h.nodup (fun x hx=>by
  obtain ⟨i,hi,e⟩:=List.getElem_of_mem hx
  have h2:=h.num i hi
  rw[List.getElem?_eq_getElem hi,Option.getD_some,e] at h2
  exact List.mem_map.2 ⟨x.toNat,List.mem_range.2 (by omega),by omega⟩) (by simp) (j:Int) (List.mem_map.2 ⟨j,List.mem_range.2 hj,rfl⟩)
 obtain ⟨i,hi,e⟩:=List.getElem_of_mem h1
 exact ⟨i,hi,by rw[List.getElem?_eq_getElem hi];exact e⟩
def movTo (p vs:List Int) (k:Nat):List Int:=putAll ((List.range k).map fun i=>((p[i]?.getD 0).toNat,vs[i]?.getD 0)) (List.replicate vs.length 0)
def movL (p vs:List Int):List Int:=movTo p vs vs.length
theorem movTo_zero (p vs:List Int):movTo p vs 0=List.replicate vs.length 0:=rfl
theorem movTo_succ (p vs:List Int) (k:Nat):movTo p vs (k+1)=(movTo p vs k).set (p[k]?.getD 0).toNat (vs[k]?.getD 0):=by
 unfold movTo
 rw[List.range_succ,List.map_append]
 exact putAll_snoc
theorem movTo_len (p vs:List Int) (k:Nat):(movTo p vs k).length=vs.length:=by unfold movTo;rw[putAll_len,List.length_replicate]
theorem movL_len (p vs:List Int):(movL p vs).length=vs.length:=movTo_len p vs _
theorem movL_at {p vs:List Int} (hp:PermP p) (hl:p.length=vs.length) {i:Nat} (hi:i<vs.length):(movL p vs)[(p[i]?.getD 0).toNat]?.getD 0=vs[i]?.getD 0:=by
 unfold movL movTo
 have h1:=hp.num i (by omega)
 have h:=putAll_get (ps:=(List.range vs.length).map fun i=>((p[i]?.getD 0).toNat,vs[i]?.getD 0)) (a:=List.replicate vs.length 0) (p:=((p[i]?.getD 0).toNat,vs[i]?.getD 0)) (by
  rw[List.map_map]
  unfold List.Nodup
  rw[List.pairwise_map]
  refine List.Pairwise.imp_of_mem ?_ List.pairwise_lt_range
  intro a b ha hb hab e
  rw[List.mem_range] at ha hb
  have h2:=hp.num a (by omega)
  have h3:=hp.num b (by omega)
  simp only[Function.comp] at e
  have:=hp.inj a b (by omega) (by omega) (by omega)
  omega) (List.mem_map.2 ⟨i,List.mem_range.2 hi,rfl⟩) (by rw[List.length_replicate];show (p[i]?.getD 0).toNat<_;omega)
 simp only at h
 rw[h]
 rfl
theorem movL_from {p vs:List Int} (hp:PermP p) (hl:p.length=vs.length) {j:Nat} (hj:j<vs.length):∃i,i<vs.length∧p[i]?.getD 0=(j:Int)∧(movL p vs)[j]?.getD 0=vs[i]?.getD 0:=by
 obtain ⟨i,hi,e⟩:=hp.onto (j:=j) (by omega)
 refine ⟨i,by omega,e,?_⟩
 have h:=movL_at hp hl (i:=i) (by omega)
 rw[e,Int.toNat_natCast] at h
 exact h
def lineI (p l:List Int):List Int:=srt (l.map fun c=>p[c.toNat]?.getD 0)
theorem lineI_len (p l:List Int):(lineI p l).length=l.length:=by unfold lineI;rw[srt_len,List.length_map]
theorem lineI_mem {p l:List Int} {y:Int}:y∈lineI p l↔∃x,x∈l∧p[x.toNat]?.getD 0=y:=by
 unfold lineI
 rw[srt_mem,List.mem_map]
theorem perm_sum {l m:List Int} (h:l.Perm m):l.sum=m.sum:=by
 induction h with
 | nil=>rfl
 | cons x _ ih=>rw[List.sum_cons,List.sum_cons,ih]
 | swap x y l=>simp only[List.sum_cons];omega
 | trans _ _ h1 h2=>exact h1.trans h2
theorem sumAt_map (l f:List Int):sumAt l f=(l.map fun c=>f[c.toNat]?.getD 0).sum:=by
 unfold sumAt
 generalize (l.map fun c=>f[c.toNat]?.getD 0)=xs
 rw[List.sum_eq_foldl]
theorem sumAt_line {p l f:List Int} (hp:PermP p) (hl:p.length=f.length) (hb:∀x,x∈l→0≤x∧x<(p.length:Int)):sumAt (lineI p l) (movL p f)=sumAt l f:=by
 rw[sumAt_map,sumAt_map]
 have h1:((lineI p l).map fun c=>(movL p f)[c.toNat]?.getD 0).Perm ((l.map fun c=>p[c.toNat]?.getD 0).map fun c=>(movL p f)[c.toNat]?.getD 0):=(List.mergeSort_perm _ _).map _
 rw[perm_sum h1,List.map_map]
 congr 1
 apply List.map_congr_left
 intro x hx
 have h2:=hb x hx
 simp only[Function.comp]
 exact movL_at hp hl (by omega)
end
section
open Go Go.RowKit
def cmN (c:Bool) (N x:Int):Int:=if c=true then N+1 - x else x
def cgN (c:Bool) (N x:Int):Int:=if (c&&decide (0<x))=true then N+1 - x else x
def cmS (c:Bool) (N n sum:Int):Int:=if c=true then n*(N+1) - sum else sum
def movG (c:Bool) (p g:List Int):List Int:=movL p (g.map (cgN c g.length))
def movF (c:Bool) (p f:List Int):List Int:=movL p (f.map (cmN c f.length))
theorem map_get {h:Int→Int} {l:List Int} {i:Nat} (hi:i<l.length):(l.map h)[i]?.getD 0=h (l[i]?.getD 0):=by
 rw[List.getElem?_map,List.getElem?_eq_getElem hi];rfl
theorem movG_len (c:Bool) (p g:List Int):(movG c p g).length=g.length:=by unfold movG;rw[movL_len,List.length_map]
theorem movF_len (c:Bool) (p g:List Int):(movF c p g).length=g.length:=by unfold movF;rw[movL_len,List.length_map]
theorem movF_from {c:Bool} {p f:List Int} (hp:PermP p) (hl:p.length=f.length) {j:Nat} (hj:j<f.length):∃i,i<f.length∧p[i]?.getD 0=(j:Int)∧(movF c p f)[j]?.getD 0=cmN c f.length (f[i]?.getD 0):=by
 obtain ⟨i,hi,e,h⟩:=movL_from (vs:=f.map (cmN c f.length)) hp (by rw[List.length_map];exact hl) (j:=j) (by rw[List.length_map];exact hj)
 rw[List.length_map] at hi
 exact ⟨i,hi,e,h.trans (map_get hi)⟩
theorem movG_from {c:Bool} {p f:List Int} (hp:PermP p) (hl:p.length=f.length) {j:Nat} (hj:j<f.length):∃i,i<f.length∧p[i]?.getD 0=(j:Int)∧(movG c p f)[j]?.getD 0=cgN c f.length (f[i]?.getD 0):=by
 obtain ⟨i,hi,e,h⟩:=movL_from (vs:=f.map (cgN c f.length)) hp (by rw[List.length_map];exact hl) (j:=j) (by rw[List.length_map];exact hj)
 rw[List.length_map] at hi
 exact ⟨i,hi,e,h.trans (map_get hi)⟩
theorem cmN_inj {c:Bool} {N x y:Int} (h:cmN c N x=cmN c N y):x=y:=by
 unfold cmN at h
 split at h <;> omega
theorem sum_cm {c:Bool} {N:Int} {f:List Int}:∀{l:List Int},(∀x,x∈l→0≤x∧x<(f.length:Int))→sumAt l (f.map (cmN c N))=cmS c N l.length (sumAt l f):=by
 intro l h
 rw[sumAt_map,sumAt_map]
 induction l with
 | nil=>unfold cmS;cases c <;> simp
 | cons a l ih =>
  have ha:=h a List.mem_cons_self
  simp only[List.map_cons,List.sum_cons]
  rw[ih (fun x hx=>h x (List.mem_cons_of_mem _ hx)),map_get (by omega)]
  unfold cmS cmN
  cases c with
  | false=>rfl
  | true =>
   simp only[if_true,List.length_cons]
   have:((l.length+1:Nat):Int)*(N+1)=(l.length:Int)*(N+1)+(N+1):=by rw[Int.natCast_add,Int.add_mul];omega
   rw[this]
   omega
theorem move_sol {cells:Int} {ls:List (List Int)} {sum:Int} {g:List Int} (G:GoodTask cells ls sum g) {p:List Int} (hp:PermP p) (hpl:p.length=g.length) {c:Bool} {n:Int} (hn:c=true→∀l,l∈ls→(l.length:Int)=n) {f:List Int} (h:SolF ls sum g f) :
  SolF (ls.map (lineI p)) (cmS c g.length n sum) (movG c p g) (movF c p f):=by
 have hl:=h.len
 have hpf:p.length=f.length:=by omega
 refine ⟨by rw[movG_len,movF_len,hl],fun j hj=>?_,fun i j hi hj e=>?_,fun j hj hne=>?_,fun m hm=>?_⟩
 ·rw[movF_len] at hj
  rw[movG_len]
  obtain ⟨i,hi,_,e⟩:=movF_from (c:=c) hp hpf hj
  rw[e]
  have:=h.num i hi
  unfold cmN
  split <;> omega
 ·rw[movF_len] at hi hj
  obtain ⟨a,ha,ea,e1⟩:=movF_from (c:=c) hp hpf hi
  obtain ⟨b,hb,eb,e2⟩:=movF_from (c:=c) hp hpf hj
  rw[e1,e2] at e
  have:=h.inj a b ha hb (cmN_inj e)
  subst this
  omega
 ·rw[movG_len] at hj
  obtain ⟨a,ha,ea,e1⟩:=movG_from (c:=c) hp hpl hj
  obtain ⟨b,hb,eb,e2⟩:=movF_from (c:=c) hp hpf (j:=j) (by omega)
  have hab:=hp.inj a b (by omega) (by omega) (by omega)
  subst hab
  rw[e1] at hne ⊢
  rw[e2,hl]
  have hg0:=G.num a ha
  have hgn:g[a]?.getD 0≠0:=fun e=>by
   rw[e] at hne
   unfold cgN at hne
   rw[if_neg (by simp)] at hne
   exact hne rfl
  rw[h.ext a ha hgn]
  unfold cmN cgN
  cases c with
  | false=>rfl
  | true =>
   rw[if_pos rfl,if_pos]
   rw[Bool.true_and,decide_eq_true_eq]
   omega
 ·obtain ⟨l,hml,e⟩:=List.mem_map.1 hm
  have hb:∀x,x∈l→0≤x∧x<(f.length:Int):=fun x hx=>by
   have h1:=(G.lineLen hml).2 x hx
   have h2:=G.len
   omega
  rw[← e]
  unfold movF
  rw[sumAt_line hp (by rw[List.length_map];exact hpf) (fun x hx=>by have:=hb x hx;omega),sum_cm hb,h.line l hml,hl]
  unfold cmS
  cases c with
  | false=>rfl
  | true=>rw[if_pos rfl,if_pos rfl,hn rfl l hml]
theorem movF_inj {c:Bool} {p f h:List Int} (hp:PermP p) (h1:p.length=f.length) (h2:p.length=h.length) (e:movF c p f=movF c p h):f=h:=by
 apply List.ext_getElem
 ·omega
 ·intro i hi hj
  have a1:=movL_at (vs:=f.map (cmN c f.length)) hp (by rw[List.length_map];exact h1) (i:=i) (by rw[List.length_map];exact hi)
  have a2:=movL_at (vs:=h.map (cmN c h.length)) hp (by rw[List.length_map];exact h2) (i:=i) (by rw[List.length_map];exact hj)
  have a3:movL p (f.map (cmN c f.length))=movL p (h.map (cmN c h.length)):=e
  rw[a3,a2,map_get hi,map_get hj,show f.length=h.length by omega] at a1
  have:=cmN_inj a1
  rw[List.getElem?_eq_getElem hi,List.getElem?_eq_getElem hj] at this
  simpa using this.symm
theorem sols_nodup {cells:Int} {ls:List (List Int)} {sum:Int} {g:List Int} (G:GoodTask cells ls sum g):(solsL ls sum g []).Nodup:=(sols_sorted G).imp fun h e=>by rw[e] at h;exact Lx.irr _ h
theorem sols_le {cells cells':Int} {ls ls':List (List Int)} {sum sum':Int} {g g':List Int} (G:GoodTask cells ls sum g) (F:List Int→List Int) (hF:∀f,SolF ls sum g f→SolF ls' sum' g' (F f)) (hi:∀f h,SolF ls sum g f→SolF ls sum g h→F f=F h→f=h) (G':GoodTask cells' ls' sum' g') :
  (solsL ls sum g []).length≤(solsL ls' sum' g' []).length:=by
 have hn:((solsL ls sum g []).map F).Nodup:=by
  unfold List.Nodup
  rw[List.pairwise_map]
  refine List.Pairwise.imp_of_mem ?_ (sols_nodup G)
  intro a b ha hb hab e
  exact hab (hi a b ((mem_sols G).1 ha) ((mem_sols G).1 hb) e)
 have:=nodup_leG hn (m:=solsL ls' sum' g' []) (fun x hx=>by
  obtain ⟨f,hf,e⟩:=List.mem_map.1 hx
  rw[← e]
  exact (mem_sols G').2 (hF f ((mem_sols G).1 hf)))
 rwa [List.length_map] at this
def invP (p:List Int):List Int:=movL p ((List.range p.length).map fun (i:Nat)=>(i:Int))
theorem invP_len (p:List Int):(invP p).length=p.length:=by unfold invP;rw[movL_len,List.length_map,List.length_range]
theorem invP_at {p:List Int} (hp:PermP p) {i:Nat} (hi:i<p.length):(invP p)[(p[i]?.getD 0).toNat]?.getD 0=(i:Int):=by
 unfold invP
 rw[movL_at hp (by simp) (i:=i) (by simpa using hi),List.getElem?_map,List.getElem?_range hi]
 rfl
theorem invP_from {p:List Int} (hp:PermP p) {j:Nat} (hj:j<p.length):∃i,i<p.length∧p[i]?.getD 0=(j:Int)∧(invP p)[j]?.getD 0=(i:Int):=by
 obtain ⟨i,hi,e⟩:=hp.onto hj
 have h:=invP_at hp hi
 rw[e,Int.toNat_natCast] at h
 exact ⟨i,hi,e,h⟩
theorem invP_perm {p:List Int} (hp:PermP p):PermP (invP p):=by
 refine ⟨fun k hk=>?_,fun i j hi hj e=>?_⟩
 ·rw[invP_len] at hk ⊢
  obtain ⟨i,hi,_,e⟩:=invP_from hp hk
  rw[e]
  omega
 ·rw[invP_len] at hi hj
  obtain ⟨a,ha,e1,e2⟩:=invP_from hp hi
  obtain ⟨b,hb,e3,e4⟩:=invP_from hp hj
  rw[e2,e4] at e
  have:a=b:=by omega
  subst this
  omega
theorem get_ext {l m:List Int} (hl:l.length=m.length) (h:∀i,i<l.length→l[i]?.getD 0=m[i]?.getD 0):l=m:=by
 apply List.ext_getElem hl
 intro i h1 h2
 have:=h i h1
 rw[List.getElem?_eq_getElem h1,List.getElem?_eq_getElem h2] at this
 simpa using this
theorem line_back {p l:List Int} (hp:PermP p) (hb:∀x,x∈l→0≤x∧x<(p.length:Int)) (ha:l.Pairwise (·<·)):lineI (invP p) (lineI p l)=l:=by
 have hup:(lineI (invP p) (lineI p l)).Pairwise (·≤·):=by
  unfold lineI srt
  refine (List.pairwise_mergeSort (le:=fun x y:Int=>decide (x≤y)) (fun a b c h1 h2=>?_) (fun a b=>?_) _).imp fun h=>?_
  ·simp only[decide_eq_true_eq] at h1 h2 ⊢;omega
  ·simp only[Bool.or_eq_true,decide_eq_true_eq];omega
  ·simpa using h
 have hpm:(lineI (invP p) (lineI p l)).Perm l:=by
  unfold lineI
  refine (List.mergeSort_perm _ _).trans ?_
  refine ((List.mergeSort_perm _ _).map _).trans ?_
  rw[List.map_map]
  have:(l.map ((fun c:Int=>(invP p)[c.toNat]?.getD 0) ∘ fun c:Int=>p[c.toNat]?.getD 0))=l:=by
   conv=>rhs;rw[← List.map_id l]
   apply List.map_congr_left
   intro x hx
   have h:=hb x hx
   simp only[Function.comp,id]
   rw[invP_at hp (by omega)]
   omega
  rw[this]
 exact List.Perm.eq_of_pairwise (le:=(·≤·)) (fun a b _ _ h1 h2=>Int.le_antisymm h1 h2) hup (ha.imp fun h=>Int.le_of_lt h) hpm
end
section
open Go Go.RowKit
theorem sys_of {cells:Int} {ls:List (List Int)} (h1:1≤cells) (h2:cells≤256) (h3:ls.length≤128) (hne:∀l,l∈ls→0<l.length) (hm:∀l,l∈ls→∀k:Nat,k<l.length→0≤l[k]?.getD 0∧l[k]?.getD 0<cells)
  (ha:∀l,l∈ls→∀k:Nat,0<k→k<l.length→l[k - 1]?.getD 0<l[k]?.getD 0) (hd:ls.Nodup):sysErr cells ls=0:=by
 unfold sysErr
 rw[if_neg (by omega),if_neg (by omega)]
 refine errs_none fun i hi=>?_
 have hml:ls[i]?.getD []∈ls:=by rw[List.getElem?_eq_getElem hi];exact List.getElem_mem hi
 have hz:errs (lineBad cells (ls[i]?.getD [])) (ls[i]?.getD []).length=0:=errs_none fun k hk=>by
  unfold lineBad
  have:=hm _ hml k hk
  rw[if_neg (by omega)]
  by_cases h0:0<k
  ·have:=ha _ hml k h0 hk
   rw[if_neg (by omega)]
  ·rw[if_neg (fun e=>h0 e.1)]
 have hno:hasLineB (ls.take i) (ls[i]?.getD [])=false:=by
  rw[Bool.eq_false_iff]
  intro hb
  unfold hasLineB at hb
  rw[List.contains_iff_mem,List.mem_take_iff_getElem] at hb
  obtain ⟨j,hj,e⟩:=hb
  rw[List.getElem?_eq_getElem hi,Option.getD_some] at e
  have:=(List.getElem_inj hd).1 e
  omega
 unfold lineErr
 rw[if_neg (by have:=hne _ hml;omega),hz,if_neg (by decide),hno]
 rfl
theorem sys_nodup {cells:Int} {ls:List (List Int)} (h:sysErr cells ls=0):ls.Nodup:=by
 unfold sysErr at h
 split at h
 ·cases h
 ·split at h
  ·cases h
  ·have hz:=errs_zero h
   unfold List.Nodup
   rw[List.pairwise_iff_getElem]
   intro i j hi hj hij e
   have h2:=hz j hj
   unfold lineErr at h2
   split at h2
   ·cases h2
   ·split at h2
    ·rename_i h3;exact h3 h2
    ·have:hasLineB (ls.take j) (ls[j]?.getD [])=true:=by
      unfold hasLineB
      rw[List.contains_iff_mem,List.mem_take_iff_getElem,List.getElem?_eq_getElem hj]
      exact ⟨i,by omega,e⟩
     rw[this] at h2
     cases h2
theorem asc_pair {l:List Int} (h:∀k:Nat,0<k→k<l.length→l[k - 1]?.getD 0<l[k]?.getD 0):l.Pairwise (·<·):=by
 rw[List.pairwise_iff_getElem]
 intro i j hi hj hij
 have key:∀d,i+d+1<l.length→l[i]?.getD 0<l[i+d+1]?.getD 0:=by
  intro d
  induction d with
  | zero=>intro h1;exact h (i+1) (by omega) h1
  | succ d ih =>
   intro h1
   have h2:=ih (by omega)
   have h3:=h (i+(d+1)+1) (by omega) h1
   have e:i+(d+1)+1 - 1=i+d+1:=by omega
   rw[e] at h3
   omega
 have:=key (j - i - 1) (by omega)
 rw[show i+(j - i - 1)+1=j by omega,List.getElem?_eq_getElem hi,List.getElem?_eq_getElem hj] at this
 exact this
theorem pair_asc {l:List Int} (h:l.Pairwise (·<·)):∀k:Nat,0<k→k<l.length→l[k - 1]?.getD 0<l[k]?.getD 0:=by
 intro k h0 hk
 rw[List.pairwise_iff_getElem] at h
 have:=h (k - 1) k (by omega) hk (by omega)
 rw[List.getElem?_eq_getElem hk,List.getElem?_eq_getElem (show k - 1<l.length by omega)]
 exact this
theorem mem_at {l:List Int} {N:Int} (h:∀k:Nat,k<l.length→0≤l[k]?.getD 0∧l[k]?.getD 0<N):∀x,x∈l→0≤x∧x<N:=by
 intro x hx
 obtain ⟨k,hk,e⟩:=List.getElem_of_mem hx
 have:=h k hk
 rw[List.getElem?_eq_getElem hk,Option.getD_some,e] at this
 exact this
theorem lineI_asc {p l:List Int} (hp:PermP p) (hb:∀x,x∈l→0≤x∧x<(p.length:Int)) (ha:l.Pairwise (·<·)):(lineI p l).Pairwise (·<·):=by
 have hup:(lineI p l).Pairwise (·≤·):=by
  unfold lineI srt
  refine (List.pairwise_mergeSort (le:=fun x y:Int=>decide (x≤y)) (fun a b c h1 h2=>?_) (fun a b=>?_) _).imp fun h=>?_
  ·simp only[decide_eq_true_eq] at h1 h2 ⊢;omega
  ·simp only[Bool.or_eq_true,decide_eq_true_eq];omega
  ·simpa using h
 have hnd:(lineI p l).Nodup:=by
  unfold lineI srt
  rw[(List.mergeSort_perm _ _).nodup_iff]
  unfold List.Nodup
  rw[List.pairwise_map]
  refine List.Pairwise.imp_of_mem ?_ ha
  intro a b h1 h2 hab e
  have h3:=hb a h1
  have h4:=hb b h2
  have:=hp.inj a.toNat b.toNat (by omega) (by omega) e
  omega
 exact (hup.and hnd).imp fun h=>by have h1:=h.1;have h2:=h.2;omega
structure MovedS (cells:Int) (ls:List (List Int)) (p:List Int):Prop where
 sys:sysErr cells (ls.map (lineI p))=0
 mem:∀l,l∈ls→∀x,x∈lineI p l→0≤x∧x<cells
 back:∀l,l∈ls→lineI (invP p) (lineI p l)=l
theorem GoodTask.bnd {cells:Int} {ls:List (List Int)} {sum:Int} {g:List Int} (G:GoodTask cells ls sum g) {l:List Int} (hl:l∈ls):∀x,x∈l→0≤x∧x<cells:=mem_at (G.mem l hl)
theorem moved_sys {cells:Int} {ls:List (List Int)} {sum:Int} {g:List Int} (G:GoodTask cells ls sum g) (hs:sysErr cells ls=0) {p:List Int} (hp:PermP p) (hpl:p.length=g.length):MovedS cells ls p:=by
 have hlen:=G.len
 have hb:∀l,l∈ls→∀x,x∈l→0≤x∧x<(p.length:Int):=fun l hl x hx=>by have:=G.bnd hl x hx;omega
 have hmem:∀l,l∈ls→∀x,x∈lineI p l→0≤x∧x<cells:=fun l hl x hx=>by
  obtain ⟨y,hy,e⟩:=lineI_mem.1 hx
  have h1:=hb l hl y hy
  have h2:=hp.num y.toNat (by omega)
  omega
 have hbk:∀l,l∈ls→lineI (invP p) (lineI p l)=l:=fun l hl=>line_back hp (hb l hl) (asc_pair (G.asc l hl))
 refine ⟨sys_of G.cells1 G.cells2 (by rw[List.length_map];exact G.lines) (fun m hm=>?_) (fun m hm k hk=>?_) (fun m hm=>?_) ?_,hmem,hbk⟩
 ·obtain ⟨l,hl,e⟩:=List.mem_map.1 hm
  rw[← e,lineI_len]
  exact G.some l hl
 ·obtain ⟨l,hl,e⟩:=List.mem_map.1 hm
  rw[← e] at hk ⊢
  exact hmem l hl _ (get_mem hk)
 ·obtain ⟨l,hl,e⟩:=List.mem_map.1 hm
  rw[← e]
  exact pair_asc (lineI_asc hp (hb l hl) (asc_pair (G.asc l hl)))
 ·unfold List.Nodup
  rw[List.pairwise_map]
  refine List.Pairwise.imp_of_mem ?_ (sys_nodup hs)
  intro a b ha hb2 hab e
  exact hab ((hbk a ha).symm.trans ((congrArg (lineI (invP p)) e).trans (hbk b hb2)))
theorem moved_good {cells:Int} {ls:List (List Int)} {sum:Int} {g:List Int} (G:GoodTask cells ls sum g) (hs:sysErr cells ls=0) {p:List Int} (hp:PermP p) (hpl:p.length=g.length) {c:Bool} {sum':Int} (h1:1≤sum') (h2:sum'≤999999999) :
  GoodTask cells (ls.map (lineI p)) sum' (movG c p g):=by
 have M:=moved_sys G hs hp hpl
 have hlen:=G.len
 have hcg:∀a,a<g.length→0≤cgN c g.length (g[a]?.getD 0)∧cgN c g.length (g[a]?.getD 0)≤cells∧(cgN c g.length (g[a]?.getD 0)=0→g[a]?.getD 0=0):=fun a ha=>by
  have:=G.num a ha
  unfold cgN
  split
  ·rename_i h
   rw[Bool.and_eq_true,decide_eq_true_eq] at h
   omega
  ·omega
 refine ⟨G.cells1,G.cells2,by rw[List.length_map];exact G.lines,h1,h2,by rw[movG_len];exact hlen,fun m hm=>?_,fun m hm k hk=>?_,fun m hm=>?_,fun j hj=>?_,fun i j hij hj hp0 e=>?_⟩
 ·obtain ⟨l,hl,e⟩:=List.mem_map.1 hm
  rw[← e,lineI_len]
  exact G.some l hl
 ·obtain ⟨l,hl,e⟩:=List.mem_map.1 hm
  rw[← e] at hk ⊢
  exact M.mem l hl _ (get_mem hk)
 ·obtain ⟨l,hl,e⟩:=List.mem_map.1 hm
  rw[← e]
  exact pair_asc (lineI_asc hp (fun x hx=>by have:=G.bnd hl x hx;omega) (asc_pair (G.asc l hl)))
 ·rw[movG_len] at hj
  obtain ⟨a,ha,_,e⟩:=movG_from (c:=c) hp hpl hj
  rw[e]
  have:=hcg a ha
  omega
 ·rw[movG_len] at hj
  obtain ⟨a,ha,ea,e1⟩:=movG_from (c:=c) hp hpl (j:=i) (by omega)
  obtain ⟨b,hb,eb,e2⟩:=movG_from (c:=c) hp hpl hj
  rw[e1,e2] at e
  rw[e2] at hp0
  have hga:=G.num a ha
  have hgb:=G.num b hb
  have hb0:g[b]?.getD 0≠0:=fun e0=>by rw[e0] at hp0;unfold cgN at hp0;simp at hp0
  have ha0:g[a]?.getD 0≠0:=fun e0=>by
   have h3:=hcg b hb
   rw[← e,e0] at h3
   have:cgN c g.length 0=0:=by unfold cgN;simp
   exact hb0 (h3.2.2 this)
  have hab:g[a]?.getD 0=g[b]?.getD 0:=by
   unfold cgN at e
   rw[decide_eq_true (show 0<g[a]?.getD 0 by omega),decide_eq_true (show 0<g[b]?.getD 0 by omega),Bool.and_true] at e
   split at e <;> omega
  have hne:a≠b:=fun e3=>by subst e3;omega
  rcases Nat.lt_or_gt_of_ne hne with h3|h3
  ·exact G.apart a b h3 hb (by omega) hab
  ·exact G.apart b a h3 ha (by omega) hab.symm
theorem movG_back {c:Bool} {p g:List Int} (hp:PermP p) (hpl:p.length=g.length) (hg:∀i,i<g.length→0≤g[i]?.getD 0∧g[i]?.getD 0≤(g.length:Int)):movG c (invP p) (movG c p g)=g:=by
 refine get_ext (by rw[movG_len,movG_len]) fun i hi=>?_
 rw[movG_len,movG_len] at hi
 obtain ⟨a,ha,e1,e2⟩:=movG_from (c:=c) (f:=movG c p g) (invP_perm hp) (by rw[invP_len,movG_len];exact hpl) (j:=i) (by rw[movG_len];exact hi)
 rw[movG_len] at ha e2
 obtain ⟨b,hb,e3,e4⟩:=movG_from (c:=c) hp hpl ha
 have e5:=invP_at hp (i:=b) (by omega)
 rw[e3,Int.toNat_natCast,e1] at e5
 have:i=b:=by omega
 subst this
 rw[e2,e4]
 have:=hg i hi
 unfold cgN
 cases c with
 | false=>rfl
 | true =>
  simp only[Bool.true_and,decide_eq_true_eq]
  by_cases h0:0<g[i]?.getD 0
  ·rw[if_pos h0,if_pos (by omega)];omega
  ·rw[if_neg h0,if_neg h0]
theorem cmS_back (c:Bool) (N n sum:Int):cmS c N n (cmS c N n sum)=sum:=by
 unfold cmS
 cases c with
 | false=>rfl
 | true=>simp only[if_true];omega
theorem moved_count {cells:Int} {ls:List (List Int)} {sum:Int} {g:List Int} (G:GoodTask cells ls sum g) (hs:sysErr cells ls=0) {p:List Int} (hp:PermP p) (hpl:p.length=g.length) {c:Bool} {n:Int} (hn:c=true→∀l,l∈ls→(l.length:Int)=n)
  (h1:1≤cmS c g.length n sum) (h2:cmS c g.length n sum≤999999999):(solsL (ls.map (lineI p)) (cmS c g.length n sum) (movG c p g) []).length=(solsL ls sum g []).length:=by
 have G':=moved_good (c:=c) G hs hp hpl h1 h2
 have M:=moved_sys G hs hp hpl
 apply Nat.le_antisymm
 ·refine sols_le G' (movF c (invP p)) (fun f hf=>?_) (fun f h hf hh e=>movF_inj (invP_perm hp) (by rw[invP_len,hf.len,movG_len];exact hpl) (by rw[invP_len,hh.len,movG_len];exact hpl) e) G
  have:=move_sol G' (invP_perm hp) (by rw[invP_len,movG_len];exact hpl) (c:=c) (n:=n) (fun e m hm=>by
   obtain ⟨l,hl,e2⟩:=List.mem_map.1 hm
   rw[← e2,lineI_len]
   exact hn e l hl) hf
  rw[movG_len,cmS_back,movG_back hp hpl (fun i hi=>by have:=G.num i hi;have:=G.len;omega),List.map_map] at this
  have e:ls.map (lineI (invP p) ∘ lineI p)=ls:=by
   conv=>rhs;rw[← List.map_id ls]
   apply List.map_congr_left
   intro l hl
   exact M.back l hl
  rw[e] at this
  exact this
 ·exact sols_le G (movF c p) (fun f hf=>move_sol G hp hpl hn hf) (fun f h hf hh e=>movF_inj hp (by rw[hf.len];exact hpl) (by rw[hh.len];exact hpl) e) G'
end
section
open Go Go.RowKit
end
end Go.Proofs.YtaadpihbjhachaaGreat
