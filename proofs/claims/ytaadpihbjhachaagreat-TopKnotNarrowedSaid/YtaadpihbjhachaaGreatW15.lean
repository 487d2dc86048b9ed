/- Texts H9 to H11 of this proof, in one file. -/
import Derived.Test.YtaadpihbjhachaaGreatW05
import Derived.Test.YtaadpihbjhachaaGreatW08
import Derived.Test.YtaadpihbjhachaaGreatW11
import Derived.Test.YtaadpihbjhachaaGreatW14
import Derived.Deep.CutBlock
import Derived.Deep.CutRange
namespace Go.Proofs.YtaadpihbjhachaaGreat
set_option maxRecDepth 100000
set_option maxHeartbeats 16000000
section
open Go Go.RowKit
attribute [local go_sem] over_cell
attribute [local go_sem] Oper.semAt_some
theorem made_nil (N:Nat):(madeCells (Value.slice none 0 0).cells (N*1)).toList=List.replicate N (.slice none 0 0):=by
 apply List.ext_getElem?
 intro i
 by_cases h:i<N
 ·simp[madeCells,h,Value.cells,Nat.mod_one]
 ·simp[madeCells,h]
def candL (M:Nat) (Ms:List Nat):List (List Int):=if contraB Ms M=true then Ms.map (fun _=>[]) else Ms.map elemsM
theorem elemsM_len (M:Nat):(elemsM M).length≤256:=elemsTo_len M 256
theorem rc_of_rows {w:World} {og n:Nat} {B:Nat} {rv:List Value} {ES:List (List Int)} (h:w.ownsRow B 25 1 (.slice (some ⟨og,0,none⟩) n n) n rv) (hn:n≤256) (hl:ES.length=n) (hr:∀i:Nat,i<n→∃v,rv[i]?=some v∧w.ownsRow 0 3 1 v (ES[i]?.getD []).length ((ES[i]?.getD []).map (Value.int .i64))∧(ES[i]?.getD []).length≤256):RC w (some ⟨og,0,none⟩) n ES:=by
 refine ⟨⟨hl,by omega⟩,fun k hk=>?_⟩
 obtain ⟨g,cap,x,hv,hx,hc,_,hlt,_⟩:=owns_free h k hk
 simp only[Value.slice.injEq,Option.some.injEq,Addr.mk.injEq,true_and,and_true] at hv
 obtain ⟨rfl,_⟩:=hv
 obtain ⟨v,hv,ho,hle⟩:=hr k hk
 rw[hx] at hv
 cases hv
 obtain ⟨a1,c1,rfl⟩:=owns_shape ho
 have:=IC.of_owns ho (by omega)
 refine ⟨og,0,a1,_,c1,rfl,hlt,?_,this.1,this.2⟩
 rw[Nat.zero_add]
 exact hc
theorem cand_c (a:Option Addr) (n c:Nat) (ls:List (List Int)) (cells sum:Int) (a':Option Addr) (n' c':Nat) (g:List Int) (w:World) (h:RC w a n ls) (hcap:n≤c) (h':IC w a' n' g) (hcap':n'≤c') :
  Calls Tryz.prog 26 #[.agg #[.int .i64 cells,.slice a n c,.int .i64 sum,.slice a' n' c']] w fun e w'=>∃ar nr cr,e = .returned (.tuple #[.slice ar nr cr,.int .i64 (taskErr cells ls sum g)])∧(taskErr cells ls sum g≠0→ar=none∧nr=0)∧(taskErr cells ls sum g=0→∃k,stepR ls sum (allM n') (iterR ls sum (allM n') k (begL g)).2=none∧RC w' ar nr (candL (allM n') (iterR ls sum (allM n') k (begL g)).2))∧nr≤cr∧Below w.heap.size w w':=by
 have H:=Lib.hid h
 have H':=Lib.hid h'
 have HT:=Lib.hid (fun w1 (hb:Below w.heap.size w w1)=>task_c a n c ls cells sum a' n' c' g w1 (h.mono hb) hcap (h'.mono hb) hcap')
 clear h h'
 go_enter Tryz.func26,Tryz.ntmps26
 go_wp2_with fail
 have fsz:(w.alloc (.cells #[.int .i64 cells,.slice a n c,.int .i64 sum,.slice a' n' c'] 27)).heap.size=w.heap.size+1:=by simp only[World.size_alloc]
 have fB:Below w.heap.size w (w.alloc (.cells #[.int .i64 cells,.slice a n c,.int .i64 sum,.slice a' n' c'] 27)):=(Below.refl _ _).alloc (Nat.le_refl _) _
 have fq0:(w.alloc (.cells #[.int .i64 cells,.slice a n c,.int .i64 sum,.slice a' n' c'] 27)).heap[w.heap.size]?=some (.cells #[.int .i64 cells,.slice a n c,.int .i64 sum,.slice a' n' c'] 27 (0,0)):=by have h:=World.alloc_heap_new w (.cells #[.int .i64 cells,.slice a n c,.int .i64 sum,.slice a' n' c'] 27);exact h
 generalize (w.alloc (.cells #[.int .i64 cells,.slice a n c,.int .i64 sum,.slice a' n' c'] 27))=W0 at fsz fB fq0 ⊢
 have fsz':w.heap.size<W0.heap.size:=by omega
 clear fsz
 refine (HT.out W0 fB).mono ?_
 rintro _ w1 ⟨rfl,hb1⟩
 have HQ1:=Lib.hid (keepq hb1 fq0)
 have hB1:=fB.trans (hb1.mono fB.size)
 clear HT fq0
 by_cases he:(taskErr cells ls sum g != 0)=true
 ·have hne:taskErr cells ls sum g≠0:=by simpa using he
  have HNE:=Lib.hid hne
  clear hne
  obtain ⟨er,her⟩:∃er,taskErr cells ls sum g=er:=⟨_,rfl⟩
  have HER:=Lib.hid her
  rw[her] at he
  rw[her]
  clear her
  go_wp2_with fail
  go_ret2
  exact ⟨none,0,0,by rw[HER.out];rfl,fun _=>⟨rfl,rfl⟩,fun h=>absurd h HNE.out,by omega,hB1⟩
 ·have he0:taskErr cells ls sum g=0:=by simpa using he
  have G:=Lib.hid (goodTask he0)
  have HE0:=Lib.hid he0
  rw[he0]
  clear he he0
  have hn2:n'≤256:=by have:=G.out.glen;have:=H'.out.len;omega
  have x0:w1.cell? ⟨w.heap.size,0,none⟩=some (.int .i64 cells):=q_cell HQ1.out 0
  have x1:w1.cell? ⟨w.heap.size,1,none⟩=some (.slice a n c):=q_cell HQ1.out 1
  have x2:w1.cell? ⟨w.heap.size,2,none⟩=some (.int .i64 sum):=q_cell HQ1.out 2
  have x3:w1.cell? ⟨w.heap.size,3,none⟩=some (.slice a' n' c'):=q_cell HQ1.out 3
  have xl:=q_lt HQ1.out
  go_wp2_with fail
  refine (fbegin_c a n c cells sum a' n' c' g w1 (H'.out.mono hB1) hn2 G.out.num').mono ?_
  rintro _ w2 ⟨b,a9,c9,rfl,hqb,hbge,hown,hb2⟩
  have hB2:=hB1.trans (hb2.mono hB1.size)
  have hsz1:=hB1.size
  clear x0 x1 x2 x3 xl
  have HBL:Hid ((begL g).length=n'):=by unfold Hid begL;rw[List.length_map,H'.out.len]
  have HS:=Lib.hid (settle_c w b (.int .i64 cells) (.slice a' n' c') a n c ls sum a9 n' c9 (allM n') (begL g) w2 hqb hown HBL.out hn2 H.out hB2 (by omega) (fun l hl=>by
   have h1:=G.out.lineShort hl
   have h2:=G.out.cells2
   have h3:=(G.out.lineLen hl).2
   have h4:=G.out.len
   have h5:=H'.out.len
   exact ⟨by omega,fun x hx=>by have:=h3 x hx;omega⟩) G.out.sum1 G.out.sum2)
  clear hqb hown
  go_wp2_with fail
  refine HS.out.mono ?_
  rintro _ w3 ⟨k,v,rfl,hend,_,_,hqb3,hown3,hBk⟩
  have hB3:Below w.heap.size w w3:=hB2.trans (hBk.mono (by omega))
  have hML:((iterR ls sum (allM n') k (begL g)).2).length=n':=by rw[iterR_len];exact HBL.out
  have HRES:Hid (∀(w':World) (ar:Option Addr) (nr cr:Nat),RC w' ar nr (candL (allM n') (iterR ls sum (allM n') k (begL g)).2)→nr≤cr→Below w.heap.size w w'→∃ar' nr' cr',Ending.returned (.tuple #[.slice ar nr cr,.int .i64 0]) = .returned (.tuple #[.slice ar' nr' cr',.int .i64 (taskErr cells ls sum g)])∧(taskErr cells ls sum g≠0→ar'=none∧nr'=0)∧(taskErr cells ls sum g=0→∃k,stepR ls sum (allM n') (iterR ls sum (allM n') k (begL g)).2=none∧RC w' ar' nr' (candL (allM n') (iterR ls sum (allM n') k (begL g)).2))∧nr'≤cr'∧Below w.heap.size w w') :=
   fun w' ar nr cr hrc hc hb=>⟨ar,nr,cr,by rw[HE0.out],fun h=>absurd HE0.out h,fun _=>⟨k,hend,hrc⟩,hc,hb⟩
  obtain ⟨Mk,hMk⟩:∃X,(iterR ls sum (allM n') k (begL g)).2=X:=⟨_,rfl⟩
  rw[hMk] at hML hown3 HRES
  clear hMk hend HS HBL
  have HML:=Lib.hid hML
  have HO3:=Lib.hid hown3
  have HB3:=Lib.hid hqb3
  have c4:w3.cell? ⟨b,4,none⟩=some (.slice a9 n' c9):=q_cell hqb3 4
  have hbl:=q_lt hqb3
  clear hML hown3 hqb3
  obtain ⟨i2,hi,hz0,hz1,hz2⟩:=info_parts infoRow
  go_wp2_with (refine wpList_make_full _ rfl _ _ 22 rfl w3.heap.size 25 i2 (.slice none 0 0) 1 Tryz.underlying22 hi hz0 hz1 _ _ _ _ n' rfl rfl (by simp) (by simp) (by rw[hz2];omega) (by unfold maxLen;omega) (Nat.le_refl _) ?_;intro W4 hown4 hgr4)
  rw[made_nil] at hown4
  have hB34:=(Below.refl w3.heap.size w3).grown hgr4 (Nat.le_refl _) (fun k e=>by cases e)
  have hB4:=hB3.trans (hB34.mono hB3.size)
  have HB4:=Lib.hid (keepq hB34 HB3.out)
  have hown4b:W4.ownsRow (b+1) 148 4 (.slice a9 n' c9) n' (setsL Mk):=owns_keep HO3.out (fun i e hl=>hB34.block i hl)
  have hSL4:=(SL.of_owns hown4b (by rw[HML.out];omega)).1
  have HC:=Lib.hid (contra_c b _ _ _ _ a9 n' c9 (allM n') Mk W4 HB4.out hSL4)
  have HSL4:=Lib.hid hSL4
  have HO4:=Lib.hid hown4
  clear hown4b hSL4 hown4 c4 hbl hgr4
  cases hcb:contraB Mk (allM n') with
  | true =>
   rw[hcb] at HC
   have HCL:Hid (candL (allM n') Mk=Mk.map (fun _=>[])):=by unfold Hid candL;rw[if_pos hcb]
   clear hcb
   go_wp2_with fail
   refine HC.out.mono ?_
   rintro _ w5 ⟨rfl,hb5⟩
   go_wp2_with fail
   go_ret2
   refine HRES.out _ _ _ _ ?_ (Nat.le_refl _) (hB4.trans (hb5.mono hB4.size))
   rw[HCL.out]
   refine rc_of_rows (owns_keep HO4.out (fun i e hl=>hb5.block i hl)) hn2 (by rw[List.length_map,HML.out]) (fun i hi=>⟨.slice none 0 0,by simp[hi],?_,?_⟩)
   ·rw[List.getElem?_map,List.getElem?_eq_getElem (by rw[HML.out];exact hi)]
    exact World.ownsRow_nil _ _ _ _
   ·rw[List.getElem?_map,List.getElem?_eq_getElem (by rw[HML.out];exact hi)]
    simp
  | false =>
   rw[hcb] at HC
   have HCL:Hid (candL (allM n') Mk=Mk.map elemsM):=by unfold Hid candL;rw[if_neg (by rw[hcb];simp)]
   clear hcb
   go_wp2_with fail
   refine HC.out.mono ?_
   rintro _ w5 ⟨rfl,hb5⟩
   have HO5:=Lib.hid (owns_keep HO4.out (fun i e hl=>hb5.block i hl))
   have HB5:=Lib.hid (keepq hb5 HB4.out)
   have HSL5:=Lib.hid (HSL4.out.mono hb5)
   have hB5:=hB4.trans (hb5.mono hB4.size)
   have c4:w5.cell? ⟨b,4,none⟩=some (.slice a9 n' c9):=q_cell HB5.out 4
   have hbl:=q_lt HB5.out
   clear HC HO4 HSL4
   have hl35:w3.heap.size<w5.heap.size:=(HO5.out.lt w3.heap.size rfl).2
   have hb3l:=q_lt HB3.out
   have HNB:Hid (∀x:Addr,a9=some x→¬x.block=w3.heap.size):=fun x e=>by
    have:=(HO3.out.lt x.block (by rw[e];rfl)).2
    omega
   go_wp2_with fail
   go_loopw [7,31] (fun _ i wr=>∃(j:Nat) (rv:List Value),j≤n'∧i = .int .i64 j∧wr.ownsRow w3.heap.size 25 1 (.slice (some ⟨w3.heap.size,0,none⟩) n' n') n' rv∧Hid (∀i:Nat,i<j→∃v,rv[i]?=some v∧wr.ownsRow w5.heap.size 3 1 v (elemsM (Mk[i]?.getD 0)).length ((elemsM (Mk[i]?.getD 0)).map (Value.int .i64)))∧Hid (Stays (fun k=>k=w3.heap.size) w5 wr)) (fun _ i _=>n' - (intOf i).toNat)
   case atStart=>exact ⟨0,_,by omega,rfl,HO5.out,fun i hi=>absurd hi (by omega),Stays.refl _ _⟩
   case round =>
    obtain ⟨j,rv,hj,rfl,hrv,hrows,hst⟩:=hrel
    have hl5r:=hst.out.size
    have HBr:=Lib.hid (stays_q hst.out HB5.out (by omega))
    by_cases hlt:j<n'
    ·obtain ⟨b8,off,rfl,hb8,hc⟩:=HSL5.out.2 j hlt
     have hb83:¬b8=w3.heap.size:=HNB.out _ rfl
     have hc2:SetC wr b8 (off+j*4) (Mk[j]?.getD 0):=fun q hq=>(hst.out.cell hb8 hb83).trans (hc q hq)
     have HEL:=Lib.hid (elems_c b8 (off+j*4) (Mk[j]?.getD 0) wr hc2 (by omega))
     have c4:wr.cell? ⟨b,4,none⟩=some (.slice (some ⟨b8,off,none⟩) n' c9):=q_cell HBr.out 4
     have hbl:=q_lt HBr.out
     have hji:(j:Int)<(n':Int):=by omega
     have hel:=elemsM_len (Mk[j]?.getD 0)
     clear hc hc2
     go_wp2_with fail
     refine HEL.out.mono ?_
     rintro _ w6 ⟨v6,rfl,hown6,hb6⟩
     obtain ⟨g9,cap9,x9,hv9,hx9,hc9,hf9,hg9,_⟩:=owns_free (owns_keep hrv (fun i e hl=>hb6.block i hl)) j hlt
     simp only[Value.slice.injEq,Option.some.injEq,Addr.mk.injEq,true_and,and_true] at hv9
     obtain ⟨rfl,hcap9⟩:=hv9
     clear hcap9
     obtain ⟨a6,c6,rfl⟩:=owns_shape hown6
     have HO6:=Lib.hid hown6
     clear hown6 HEL hx9
     go_wp2_with fail
     go_roundw
     case rel =>
      refine ⟨j+1,rv.set j (.slice a6 (elemsM (Mk[j]?.getD 0)).length c6),by omega,by go_num,owns_set (owns_keep hrv (fun i e hl=>hb6.block i hl)) j _,fun i hi=>?_,?_⟩
      ·rcases Nat.lt_or_ge i j with h|h
       ·obtain ⟨v,hv,ho⟩:=hrows.out i h
        exact ⟨v,by rw[List.getElem?_set_ne (by omega)];exact hv,owns_keep ho (fun x e hl=>(Below.heap_setCell _ _ _ _ (fun e2=>by have:=owns_ge ho e;simp at e2;omega)).trans (hb6.block x hl))⟩
       ·obtain rfl:i=j:=by omega
        refine ⟨_,List.getElem?_set_self (by have:=hrv.1;omega),owns_up (owns_keep (owns_base HO6.out (Nat.zero_le _)) (fun x e hl=>Below.heap_setCell _ _ _ _ (fun e2=>by have:=owns_ge HO6.out e;simp at e2;omega))) (fun x e=>by have:=owns_ge HO6.out e;omega)⟩
      ·exact hst.out.trans ((Below.stays hb6 _).trans (Stays.setCell (S:=fun k=>k=w3.heap.size) w6 (p:=⟨w3.heap.size,j,none⟩) rfl _) (fun _ e => .inl e)) (fun _ e => .inl e)
     case measure=>simp[intOf];omega
    ·have e:j=n':=by omega
     subst e
     go_wp2_with fail
     go_ret2
     refine HRES.out _ _ _ _ ?_ (Nat.le_refl _) (hB5.trans (hst.out.below hB5.size (fun i e=>by have:=hB3.size;omega)))
     rw[HCL.out]
     refine rc_of_rows hrv hn2 (by rw[List.length_map,HML.out]) (fun i hi=>?_)
     obtain ⟨v,hv,ho⟩:=hrows.out i hi
     have hel:(Mk.map elemsM)[i]?.getD []=elemsM (Mk[i]?.getD 0):=by
      rw[List.getElem?_map,List.getElem?_eq_getElem (show i<Mk.length by rw[HML.out];exact hi)];rfl
     rw[hel]
     exact ⟨v,hv,owns_base ho (Nat.zero_le _),elemsM_len _⟩
end
section
open Go Go.RowKit
structure Nd where
 kind:ByteArray
 cell:Int
 line:Int
 number:Int
 kids:Int
def kLine:ByteArray:=⟨#[108,105,110,101]⟩
def lineOk (ls:List (List Int)) (sum:Int) (g:List Int) (d:Nd):Bool :=
 d.cell==0&&d.number==0&&d.kids==0&&decide (0≤d.line)&&decide (d.line<ls.length)&&beyV (ls[d.line.toNat]?.getD []) g sum
end
section
open Go Go.RowKit
attribute [local go_sem] over_cell
attribute [local go_sem] Oper.semAt_some
end
end Go.Proofs.YtaadpihbjhachaaGreat
