/- Texts L1 to T5 of this proof, in one file. -/
import Derived.Test.YtcblpobiefmjmaaGreatW06
import Derived.Test.YtcblpobiefmjmaaGreatW23
import Derived.Test.YtcblpobiefmjmaaGreatW27
import Derived.Below
namespace Go.Proofs.YtcblpobiefmjmaaGreat
set_option maxRecDepth 100000
set_option maxHeartbeats 16000000
section
end
section
open Go Go.RowKit
end
section
open Go Go.RowKit
attribute [local go_sem] over_cell
attribute [local go_sem] Oper.semAt_some
def numBad (f:List Int) (k:Nat):Int:=if f[k]?.getD 0 < -999999999∨999999999<f[k]?.getD 0 then 3 else 0
def numE (f:List Int):Int:=errs (numBad f) f.length
def fillE (cells:Int) (f:List Int):Int:=if (f.length:Int)≠cells then 2 else numE f
def hasTo (f:List Int) (x:Int) (j:Nat):Bool:=hasB (f.take j) x
theorem hasTo_succ {f:List Int} {x:Int} {j:Nat} (h:j<f.length):hasTo f x (j+1)=(hasTo f x j||f[j]?.getD 0==x):=by
 unfold hasTo
 rw[take_snoc f 0 j h,hasB_snoc,Bool.eq_iff_iff]
 simp only[Bool.or_eq_true,decide_eq_true_eq,beq_iff_eq]
 constructor
 ·rintro (h|h)
  ·exact .inl h
  ·exact .inr h.symm
 ·rintro (h|h)
  ·exact .inl h
  ·exact .inr h.symm
def normB (f:List Int):Bool:=(List.range f.length).all fun k=>hasB f ((k:Int)+1)
theorem norm_miss {f:List Int} {k:Nat} (hk:k<f.length) (h:hasB f ((k:Int)+1)=false):normB f=false:=by
 unfold normB
 rw[List.all_eq_false]
 exact ⟨k,List.mem_range.2 hk,by rw[h];decide⟩
theorem norm_end {f:List Int} (h:∀k,k<f.length→hasB f ((k:Int)+1)=true):normB f=true:=by
 unfold normB
 rw[List.all_eq_true]
 exact fun k hk=>h k (List.mem_range.1 hk)
theorem cnum_c (a:Option Addr) (n c:Nat) (f:List Int) (w:World) (h:IC w a n f) :
  Calls Tryz.prog 82 #[.slice a n c] w fun e w'=>e = .returned (.int .i64 (numE f))∧Below w.heap.size w w':=by
 have hm:=h.small
 have H:=Lib.hid h
 have hE:Hid (numE f=errs (numBad f) n):=by unfold Hid numE;rw[h.len]
 clear h
 go_enter Tryz.func82,Tryz.ntmps82
 go_wp2
 go_loop [3] (fun i=>∃k:Nat,k≤n∧i = .int .i64 k∧Hid (∀j,j<k→numBad f j=0)) (fun i=>n - (intOf i).toNat)
 case atStart=>exact ⟨0,by omega,rfl,fun j hj=>absurd hj (by omega)⟩
 case round =>
  obtain ⟨k,hk,rfl,hno⟩:=hrel
  by_cases hlt:k<n
  ·obtain ⟨b,off,rfl,hb,hc⟩:=H.out.2 k hlt
   have hB:Hid (numBad f k=if f[k]?.getD 0 < -999999999∨999999999<f[k]?.getD 0 then 3 else 0):=rfl
   generalize f[k]?.getD 0=x at hc hB
   have hki:(k:Int)<(n:Int):=by omega
   by_cases x1:x < -999999999
   ·rw[if_pos (.inl x1)] at hB
    go_wp2
    go_ret
    exact ⟨ret_int (by rw[hE.out,errs_found hno.out hlt (by rw[hB.out];decide),hB.out]),Below.refl _ _⟩
   ·by_cases x2:999999999<x
    ·rw[if_pos (.inr x2)] at hB
     go_wp2
     go_ret
     exact ⟨ret_int (by rw[hE.out,errs_found hno.out hlt (by rw[hB.out];decide),hB.out]),Below.refl _ _⟩
    ·rw[if_neg (by omega)] at hB
     go_wp2
     go_round
     case rel=>exact ⟨k+1,by omega,by go_num,upto_snoc hno.out hB.out⟩
     case measure=>simp[intOf];omega
  ·have e:k=n:=by omega
   subst e
   go_wp2
   go_ret
   exact ⟨ret_int (by rw[hE.out,errs_none hno.out]),Below.refl _ _⟩
theorem cfill_c (cells:Int) (v1:Value) (a:Option Addr) (n c:Nat) (f:List Int) (w:World) (h:IC w a n f) :
  Calls Tryz.prog 33 #[.agg #[.int .i64 cells,v1],.slice a n c] w fun e w'=>e = .returned (.int .i64 (fillE cells f))∧Below w.heap.size w w':=by
 have hm:=h.small
 have hE:Hid (fillE cells f=if (n:Int)≠cells then 2 else numE f):=by unfold Hid fillE;rw[h.len]
 have HN:=Lib.hid (fun w1 (hb:Below w.heap.size w w1)=>cnum_c a n c f w1 (h.mono hb))
 clear h
 generalize numE f=ne at HN hE
 go_enter Tryz.func33,Tryz.ntmps33
 go_upto_region 1 with fail
 have fsz:(w.alloc (.cells #[.int .i64 cells,v1] 24)).heap.size=w.heap.size+1:=by simp only[World.size_alloc]
 have fB:Below w.heap.size w (w.alloc (.cells #[.int .i64 cells,v1] 24)):=(Below.refl _ _).alloc (Nat.le_refl _) _
 have fq0:(w.alloc (.cells #[.int .i64 cells,v1] 24)).heap[w.heap.size]?=some (.cells #[.int .i64 cells,v1] 24 (0,0)):=by have h:=World.alloc_heap_new w (.cells #[.int .i64 cells,v1] 24);exact h
 generalize (w.alloc (.cells #[.int .i64 cells,v1] 24))=W0 at fsz fB fq0 ⊢
 have x0:W0.cell? ⟨w.heap.size,0,none⟩=some (.int .i64 cells):=q_cell fq0 0
 have xl:=q_lt fq0
 clear fq0 fsz
 by_cases e:(n:Int)=cells
 ·rw[if_neg (by omega)] at hE
  have m:((n:Int) != cells)=false:=by simpa using e
  go_wp2_with (go_at_call 82;refine (HN.out _ fB).mono ?_;rintro _ w1 ⟨rfl,hb1⟩)
  go_ret
  exact ⟨ret_int hE.out.symm,keep_trans fB hb1⟩
 ·rw[if_pos e] at hE
  have m:((n:Int) != cells)=true:=by simpa using e
  go_wp2_with fail
  go_ret
  exact ⟨ret_int hE.out.symm,fB⟩
theorem norm_c2 (a:Option Addr) (n c:Nat) (f:List Int) (w:World) (h:IC w a n f) :
  Calls Tryz.prog 83 #[.slice a n c] w fun e w'=>e = .returned (.bool (normB f))∧Below w.heap.size w w':=by
 have hm:=h.small
 have H:=Lib.hid h
 have hl:=Lib.hid h.len
 have HM:Hid (∀k,k<n→hasB f ((k:Int)+1)=false→normB f=false):=fun k hk e=>norm_miss (by rw[hl.out];exact hk) e
 have HE:Hid ((∀k,k<n→hasB f ((k:Int)+1)=true)→normB f=true):=fun e=>norm_end (by rw[hl.out];exact e)
 clear h
 generalize normB f=nb at HM HE ⊢
 go_enter Tryz.func83,Tryz.ntmps83
 go_wp2
 go_loop [3,4,5] (fun v _ _=>∃k:Nat,k≤n∧v = .int .i64 ((k:Int)+1)∧Hid (∀j,j<k→hasB f ((j:Int)+1)=true)) (fun v _ _=>n+1 - (intOf v).toNat)
 case atStart=>exact ⟨0,by omega,rfl,fun j hj=>absurd hj (by omega)⟩
 case round =>
  obtain ⟨k,hk,rfl,hno⟩:=hrel
  by_cases hlt:k<n
  ·have hki:(k:Int)+1≤(n:Int):=by omega
   have HS:Hid (∀j,j<n→hasTo f ((k:Int)+1) (j+1)=(hasTo f ((k:Int)+1) j||f[j]?.getD 0==(k:Int)+1)):=fun j hj=>hasTo_succ (by rw[hl.out];exact hj)
   have HT:Hid (hasTo f ((k:Int)+1) n=hasB f ((k:Int)+1)):=by unfold Hid hasTo;rw[List.take_of_length_le (by rw[hl.out];exact Nat.le_refl _)]
   have H0:Hid (hasTo f ((k:Int)+1) 0=false):=by unfold Hid hasTo hasB;simp
   go_wp2
   go_loopg [4,5] n (fun gk fv jv wv=>∃j:Nat,gk=n - j∧j≤n∧jv = .int .i64 j∧fv = .bool (hasTo f ((k:Int)+1) j)∧wv=w)
   case atStart=>exact ⟨0,by omega,by omega,rfl,by rw[H0.out],rfl⟩
   case round =>
    obtain ⟨j,rfl,hj,rfl,rfl,hwv⟩:=hrel
    replace hwv:=hwv.symm
    subst hwv
    by_cases hltj:j<n
    ·obtain ⟨b,off,rfl,hb,hc⟩:=H.out.2 j hltj
     have HSJ:=Lib.hid (HS.out j hltj)
     have hji:(j:Int)<(n:Int):=by omega
     generalize hasTo f ((k:Int)+1) j=t at HSJ
     generalize f[j]?.getD 0=x at hc HSJ
     cases t with
     | true =>
      rw[Bool.true_or] at HSJ
      go_wp2
      go_roundg (n - (j+1))
      case measure=>omega
      case rel=>exact ⟨j+1,rfl,by omega,by go_num,by rw[HSJ.out],rfl⟩
     | false =>
      rw[Bool.false_or] at HSJ
      go_wp2
      go_roundg (n - (j+1))
      case measure=>omega
      case rel=>exact ⟨j+1,rfl,by omega,by go_num,by rw[HSJ.out],rfl⟩
    ·have e:j=n:=by omega
     subst e
     rw[HT.out]
     cases hb:hasB f ((k:Int)+1) with
     | true =>
      have hb2:=Lib.hid hb
      clear hb
      go_wp2
      go_round
      case rel=>exact ⟨k+1,by omega,by go_num,fun i hi=>(by
       by_cases e:i=k
       ·rw[e];exact hb2.out
       ·exact hno.out i (by omega))⟩
      case measure=>simp[intOf];omega
     | false =>
      have hb2:=Lib.hid (HM.out k hlt hb)
      clear hb
      go_wp2
      go_ret
      exact ⟨ret_bool hb2.out.symm,Below.refl _ _⟩
  ·have e:k=n:=by omega
   subst e
   have hb2:=Lib.hid (HE.out hno.out)
   have hki:¬(k:Int)+1≤(k:Int):=by omega
   go_wp2
   go_ret
   exact ⟨ret_bool hb2.out.symm,Below.refl _ _⟩
end
section
open Go Go.RowKit
attribute [local go_sem] over_cell
attribute [local go_sem] Oper.semAt_some
def extAt (g f:List Int) (i:Nat):Bool:=!(decide (0<g[i]?.getD 0)&&g[i]?.getD 0 != f[i]?.getD 0)
def solB (ls:List (List Int)) (sum:Int) (g f:List Int):Bool:=normB f&&((List.range f.length).all (extAt g f)&&ls.all fun l=>sumAt l f==sum)
theorem all_miss {p:Nat→Bool} {n k:Nat} (hk:k<n) (h:p k=false):(List.range n).all p=false:=by
 rw[List.all_eq_false]
 exact ⟨k,List.mem_range.2 hk,by rw[h];decide⟩
theorem all_end {p:Nat→Bool} {n:Nat} (h:∀k,k<n→p k=true):(List.range n).all p=true:=by
 rw[List.all_eq_true]
 exact fun k hk=>h k (List.mem_range.1 hk)
theorem allL_miss {α:Type} {p:α→Bool} {l:List α} {d:α} {k:Nat} (hk:k<l.length) (h:p (l[k]?.getD d)=false):l.all p=false:=by
 rw[List.all_eq_false]
 rw[List.getElem?_eq_getElem hk,Option.getD_some] at h
 exact ⟨_,List.getElem_mem hk,by rw[h];decide⟩
theorem allL_end {α:Type} {p:α→Bool} {l:List α} {d:α} (h:∀k,k<l.length→p (l[k]?.getD d)=true):l.all p=true:=by
 rw[List.all_eq_true]
 intro x hx
 obtain ⟨k,hk,rfl⟩:=List.getElem_of_mem hx
 have:=h k hk
 rwa [List.getElem?_eq_getElem hk,Option.getD_some] at this
theorem upt_snoc {f:Nat→Bool} {k:Nat} (h:∀j,j<k→f j=true) (hk:f k=true):∀j,j<k+1→f j=true:=by
 intro j hj
 by_cases e:j=k
 ·rw[e];exact hk
 ·exact h j (by omega)
theorem issol_c {cells:Int} {ls:List (List Int)} {sum:Int} {g:List Int} (G:GoodTask cells ls sum g) (a:Option Addr) (n c:Nat) (a':Option Addr) (n' c':Nat) (af:Option Addr) (nf cf:Nat) (f:List Int) (w:World) (h:RC w a n ls) (h':IC w a' n' g) (hf:IC w af nf f) (hnf:nf=n') (hfv:normB f=true→∀c:Nat,0≤f[c]?.getD 0∧f[c]?.getD 0≤1000000000) :
  Calls Tryz.prog 34 #[.agg #[.int .i64 cells,.slice a n c,.int .i64 sum,.slice a' n' c'],.slice af nf cf] w fun e w'=>e = .returned (.bool (solB ls sum g f))∧Below w.heap.size w w':=by
 subst hnf
 have hns:=h.small
 have hn1:nf≤256:=by have:=G.len;have:=G.cells2;have:=h'.len;omega
 have H:=Lib.hid h
 have H':=Lib.hid h'
 have HF:=Lib.hid hf
 have hll:=Lib.hid h.len
 have hfl:=Lib.hid hf.len
 have HN:=Lib.hid (fun w1 (hb:Below w.heap.size w w1)=>norm_c2 af nf cf f w1 (hf.mono hb))
 have HFV:=Lib.hid hfv
 have HLN:Hid (∀k,k<n→(ls[k]?.getD []).length≤1000∧∀x,x∈ls[k]?.getD []→0≤x∧x<(nf:Int)):=fun k hk=>by
  have hk2:k<ls.length:=by rw[hll.out];exact hk
  rw[List.getElem?_eq_getElem hk2,Option.getD_some]
  have h1:=G.lineLen (List.getElem_mem hk2)
  have h2:=G.len
  have h3:=h'.len
  exact ⟨h1.1,fun x hx=>by have:=h1.2 x hx;omega⟩
 have hE:Hid (solB ls sum g f=(normB f&&((List.range nf).all (extAt g f)&&ls.all fun l=>sumAt l f==sum))):=by unfold Hid solB;rw[hf.len]
 clear h h' hf G hfv
 generalize solB ls sum g f=sv at hE ⊢
 go_enter Tryz.func34,Tryz.ntmps34
 go_upto_region 1 with fail
 have fsz:(w.alloc (.cells #[.int .i64 cells,.slice a n c,.int .i64 sum,.slice a' nf c'] 28)).heap.size=w.heap.size+1:=by simp only[World.size_alloc]
 have fB:Below w.heap.size w (w.alloc (.cells #[.int .i64 cells,.slice a n c,.int .i64 sum,.slice a' nf c'] 28)):=(Below.refl _ _).alloc (Nat.le_refl _) _
 have fq0:(w.alloc (.cells #[.int .i64 cells,.slice a n c,.int .i64 sum,.slice a' nf c'] 28)).heap[w.heap.size]?=some (.cells #[.int .i64 cells,.slice a n c,.int .i64 sum,.slice a' nf c'] 28 (0,0)):=by have h:=World.alloc_heap_new w (.cells #[.int .i64 cells,.slice a n c,.int .i64 sum,.slice a' nf c'] 28);exact h
 generalize (w.alloc (.cells #[.int .i64 cells,.slice a n c,.int .i64 sum,.slice a' nf c'] 28))=W0 at fsz fB fq0 ⊢
 have HQ:=Lib.hid fq0
 clear fq0 fsz
 cases hnb:normB f with
 | false =>
  rw[hnb] at HN hE
  clear hnb
  go_wp2_with (go_at_call 83;refine (HN.out _ fB).mono ?_;rintro _ w1 ⟨rfl,hb1⟩)
  go_ret
  exact ⟨ret_bool (by rw[hE.out];rfl),keep_trans fB hb1⟩
 | true =>
  have HFV:=Lib.hid (HFV.out hnb)
  rw[hnb] at HN hE
  rw[Bool.true_and] at hE
  clear hnb
  go_wp2_with fail
  refine (HN.out _ fB).mono ?_
  rintro _ w1 ⟨rfl,hb1⟩
  have hB1:=keep_trans fB hb1
  have HQ1:=Lib.hid (keepq hb1 HQ.out)
  clear HN hb1 HQ
  go_wp2_with fail
  go_loopw [5] (fun i wr=>∃k:Nat,k≤nf∧i = .int .i64 k∧Hid (∀j,j<k→extAt g f j=true)∧Below w1.heap.size w1 wr) (fun i _=>nf - (intOf i).toNat)
  case atStart=>exact ⟨0,by omega,rfl,fun j hj=>absurd hj (by omega),Below.refl _ _⟩
  case round =>
   obtain ⟨k,hk,rfl,hno,hbr⟩:=hrel
   have hBr:=keep_trans hB1 hbr
   by_cases hlt:k<nf
   ·obtain ⟨bg,og,rfl,hbg,hcg⟩:=(H'.out.mono hBr).2 k hlt
    obtain ⟨bf,of,rfl,hbf,hcf⟩:=(HF.out.mono hBr).2 k hlt
    have x3:wr.cell? ⟨w.heap.size,3,none⟩=some (.slice (some ⟨bg,og,none⟩) nf c'):=q_cell (keepq hbr HQ1.out) 3
    have xl:=q_lt (keepq hbr HQ1.out)
    have hki:(k:Int)<(nf:Int):=by omega
    have hEX:Hid (extAt g f k=!(decide (0<g[k]?.getD 0)&&g[k]?.getD 0 != f[k]?.getD 0)):=rfl
    generalize g[k]?.getD 0=x at hcg hEX
    generalize f[k]?.getD 0=y at hcf hEX
    by_cases x0:0<x
    ·rw[decide_eq_true x0,Bool.true_and] at hEX
     have m0:decide (0<x)=true:=decide_eq_true x0
     cases hxy:(x != y) with
     | true =>
      rw[hxy] at hEX
      have hA:=Lib.hid (all_miss (p:=extAt g f) hlt hEX.out)
      go_wp2_with fail
      refine wp_region_S (fun w'=>∃u,w'=over (wr) u) [] [(0,0),(0,1),(0,2),(0,3),(0,4),(0,5),(0,6),(0,7),(0,8),(0,9),(0,10),(0,11),(0,12),(0,13),(0,14),(0,15),(0,16),(0,17)] (by kernel_rfl) (by kernel_rfl) (by exact ⟨_,below_over (by repeat (first|assumption|exact Below.refl _ _|refine keep_drew ?_|refine keep_alloc ?_ _|refine keep_trans ?_ (by assumption)))⟩) ?_
      dsimp only[pickOps,nthOp]
      repeat (first|(refine wpS_skip rfl (fun K hK=>?_);go_big_quiet_op;refine hK _ ?_;clear hK K)|(refine wpS_quiet rfl rfl (fun K hK=>?_);go_big_quiet_op;refine hK _ ?_;clear hK K))
      refine wpS_end ?_
      go_wp2
      go_ret
      exact ⟨ret_bool (by rw[hE.out,hA.out];rfl),hBr.drew⟩
     | false =>
      rw[hxy] at hEX
      go_wp2_with fail
      refine wp_region_S (fun w'=>∃u,w'=over (wr) u) [] [(0,0),(0,1),(0,2),(0,3),(0,4),(0,5),(0,6),(0,7),(0,8),(0,9),(0,10),(0,11),(0,12),(0,13),(0,14),(0,15),(0,16),(0,17)] (by kernel_rfl) (by kernel_rfl) (by exact ⟨_,below_over (by repeat (first|assumption|exact Below.refl _ _|refine keep_drew ?_|refine keep_alloc ?_ _|refine keep_trans ?_ (by assumption)))⟩) ?_
      dsimp only[pickOps,nthOp]
      repeat (first|(refine wpS_skip rfl (fun K hK=>?_);go_big_quiet_op;refine hK _ ?_;clear hK K)|(refine wpS_quiet rfl rfl (fun K hK=>?_);go_big_quiet_op;refine hK _ ?_;clear hK K))
      refine wpS_end ?_
      go_wp2
      go_roundw
      case rel=>exact ⟨k+1,by omega,by go_num,upt_snoc hno.out hEX.out,hbr.drew⟩
      case measure=>simp[intOf];omega
    ·rw[decide_eq_false x0,Bool.false_and] at hEX
     have m0:decide (0<x)=false:=decide_eq_false x0
     go_wp2_with fail
     refine wp_region_S (fun w'=>∃u,w'=over (wr) u) [] [(0,0),(0,1),(0,2),(0,3),(0,4),(0,5),(0,6),(0,7),(0,8),(0,9),(0,10),(0,11),(0,12),(0,13),(0,14),(0,15),(0,16),(0,17)] (by kernel_rfl) (by kernel_rfl) (by exact ⟨_,below_over (by repeat (first|assumption|exact Below.refl _ _|refine keep_drew ?_|refine keep_alloc ?_ _|refine keep_trans ?_ (by assumption)))⟩) ?_
     dsimp only[pickOps,nthOp]
     repeat (first|(refine wpS_skip rfl (fun K hK=>?_);go_big_quiet_op;refine hK _ ?_;clear hK K)|(refine wpS_quiet rfl rfl (fun K hK=>?_);go_big_quiet_op;refine hK _ ?_;clear hK K))
     refine wpS_end ?_
     go_wp2
     go_roundw
     case rel=>exact ⟨k+1,by omega,by go_num,upt_snoc hno.out hEX.out,hbr.drew⟩
     case measure=>simp[intOf];omega
   ·have e:k=nf:=by omega
    subst e
    rw[all_end hno.out,Bool.true_and] at hE
    have HQr:=Lib.hid (keepq hbr HQ1.out)
    clear hno
    go_wp2_with fail
    go_loopw [6] (fun i ws=>∃j:Nat,j≤n∧i = .int .i64 j∧Hid (∀i,i<j→(sumAt (ls[i]?.getD []) f==sum)=true)∧Below wr.heap.size wr ws) (fun i _=>n - (intOf i).toNat)
    case atStart=>exact ⟨0,by omega,rfl,fun j hj=>absurd hj (by omega),Below.refl _ _⟩
    case round =>
     obtain ⟨j,hj,rfl,hno,hbs⟩:=hrel
     have hBs:=keep_trans hBr hbs
     by_cases hltj:j<n
     ·obtain ⟨b,off,al,nl,cl,rfl,hb,hc,hic,hcl⟩:=(H.out.mono hBs).2 j hltj
      have hln:=HLN.out j hltj
      have hll2:=Lib.hid hic.len
      have HAM:Hid ((sumAt (ls[j]?.getD []) f==sum)=false→(ls.all fun l=>sumAt l f==sum)=false):=fun e=>allL_miss (d:=[]) (by rw[hll.out];exact hltj) e
      have HNX:Hid ((sumAt (ls[j]?.getD []) f==sum)=true→∀i,i<j+1→(sumAt (ls[i]?.getD []) f==sum)=true):=fun e=>upt_snoc (f:=fun i=>sumAt (ls[i]?.getD []) f==sum) hno.out e
      generalize ls[j]?.getD []=l at hic hln hll2 HAM HNX
      have hn1000:nl≤1000:=by rw[← hll2.out];exact hln.1
      have HLX:Hid (∀i,i<nl→0≤l[i]?.getD 0∧l[i]?.getD 0<(k:Int)):=fun i hi=>by
       have hi2:i<l.length:=by rw[hll2.out];exact hi
       rw[List.getElem?_eq_getElem hi2,Option.getD_some]
       exact hln.2 _ (List.getElem_mem hi2)
      have HSM:=Lib.hid (fun W (hb2:Below wr.heap.size wr W)=>rsumof_c al af nl k cl cf l f W (hic.mono hb2) ((HF.out.mono hBs).mono hb2) hn1000 HLX.out HFV.out)
      have x1:wr.cell? ⟨w.heap.size,1,none⟩=some (.slice (some ⟨b,off,none⟩) n c):=q_cell (keepq hbs HQr.out) 1
      have x2:wr.cell? ⟨w.heap.size,2,none⟩=some (.int .i64 sum):=q_cell (keepq hbs HQr.out) 2
      have xl:=q_lt (keepq hbs HQr.out)
      have hji:(j:Int)<(n:Int):=by omega
      clear hln hic hno
      cases hs:(sumAt l f==sum) with
      | true =>
       have hs2:(sumAt l f != sum)=false:=by simpa using hs
       have HN1:=Lib.hid (HNX.out hs)
       clear hs
       go_wp2_with fail
       refine wp_region_S (fun w'=>∃u,w'=over (wr) u) [] [(0,0),(0,1),(0,2),(0,3),(0,4),(0,5),(0,6),(0,8),(0,9),(1,7),(0,10)] (by kernel_rfl) (by kernel_rfl) (by exact ⟨_,below_over (by repeat (first|assumption|exact Below.refl _ _|refine keep_drew ?_|refine keep_alloc ?_ _|refine keep_trans ?_ (by assumption)))⟩) ?_
       dsimp only[pickOps,nthOp]
       repeat (first|(refine wpS_skip rfl (fun K hK=>?_);go_big_quiet_op;refine hK _ ?_;clear hK K)|(refine wpS_quiet rfl rfl (fun K hK=>?_);go_big_quiet_op;refine hK _ ?_;clear hK K)|(refine wpS_loud ?_;go_wp2_with (go_at_call 84;refine (HSM.out _ (keep_drew (Below.refl _ _))).mono ?_;rintro _ w7 ⟨rfl,rfl⟩);refine ⟨?_,?_⟩;focus (exact ⟨_,below_over (by repeat (first|assumption|exact Below.refl _ _|refine keep_drew ?_|refine keep_alloc ?_ _|refine keep_trans ?_ (by assumption)))⟩)))
       refine wpS_end ?_
       go_wp2
       go_roundw
       case rel=>exact ⟨j+1,by omega,by go_num,HN1.out,hbs.drew⟩
       case measure=>simp[intOf];omega
      | false =>
       have hs2:(sumAt l f != sum)=true:=by simpa using hs
       have HN1:=Lib.hid (HAM.out hs)
       clear hs
       go_wp2_with fail
       refine wp_region_S (fun w'=>∃u,w'=over (wr) u) [] [(0,0),(0,1),(0,2),(0,3),(0,4),(0,5),(0,6),(0,8),(0,9),(1,7),(0,10)] (by kernel_rfl) (by kernel_rfl) (by exact ⟨_,below_over (by repeat (first|assumption|exact Below.refl _ _|refine keep_drew ?_|refine keep_alloc ?_ _|refine keep_trans ?_ (by assumption)))⟩) ?_
       dsimp only[pickOps,nthOp]
       repeat (first|(refine wpS_skip rfl (fun K hK=>?_);go_big_quiet_op;refine hK _ ?_;clear hK K)|(refine wpS_quiet rfl rfl (fun K hK=>?_);go_big_quiet_op;refine hK _ ?_;clear hK K)|(refine wpS_loud ?_;go_wp2_with (go_at_call 84;refine (HSM.out _ (keep_drew (Below.refl _ _))).mono ?_;rintro _ w7 ⟨rfl,rfl⟩);refine ⟨?_,?_⟩;focus (exact ⟨_,below_over (by repeat (first|assumption|exact Below.refl _ _|refine keep_drew ?_|refine keep_alloc ?_ _|refine keep_trans ?_ (by assumption)))⟩)))
       refine wpS_end ?_
       go_wp2
       go_ret
       exact ⟨ret_bool (by rw[hE.out,HN1.out]),hBs.drew⟩
     ·have e:j=n:=by omega
      subst e
      have hA:Hid ((ls.all fun l=>sumAt l f==sum)=true):=allL_end (d:=[]) (fun i hi=>hno.out i (by rw[← hll.out];exact hi))
      have x1:wr.cell? ⟨w.heap.size,1,none⟩=some (.slice a j c):=q_cell (keepq hbs HQr.out) 1
      have xl:=q_lt (keepq hbs HQr.out)
      clear hno
      go_wp2_with fail
      go_ret
      exact ⟨ret_bool (by rw[hE.out,hA.out]),hBs⟩
end
end Go.Proofs.YtcblpobiefmjmaaGreat
