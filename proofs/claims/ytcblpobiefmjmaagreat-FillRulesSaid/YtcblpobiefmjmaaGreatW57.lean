/- Texts A9 to A9 of this proof, in one file. -/
import Derived.Test.YtcblpobiefmjmaaGreatW56
namespace Go.Proofs.YtcblpobiefmjmaaGreat
set_option maxRecDepth 100000
set_option maxHeartbeats 16000000
section
open Go Go.RowKit
attribute [local go_sem] over_cell
attribute [local go_sem] Oper.semAt_some
theorem rrules_c {cells:Int} {ls:List (List Int)} {sum:Int} {g:List Int} (G:GoodTask cells ls sum g) (a:Option Addr) (n c:Nat) (a':Option Addr) (n' c':Nat) (w:World) (h:RC w a n ls) (h':IC w a' n' g) :
  Calls Tryz.prog 27 #[.agg #[.int .i64 cells,.slice a n c,.int .i64 sum,.slice a' n' c']] w fun e w'=>RulesOut w w' ls sum g e:=by
 obtain ⟨i0,hi,hz0,hzz,hz2⟩:=info_parts infoRefRem
 obtain ⟨i1,hi1,hx0,hx1,hx2⟩:=info_parts infoInt
 obtain ⟨i2,hi2,hy0,hy1,hy2⟩:=info_parts infoRow
 have hgl:=h'.len
 have hn1:1≤n':=by have:=G.len;have:=G.cells1;omega
 have hn2:n'≤256:=by have:=G.glen;omega
 have HG:=Lib.hid G
 have H:=Lib.hid h
 have H':=Lib.hid h'
 have HGL:=Lib.hid hgl
 have hll:Hid (∀l,l∈ls→l.length≤1000∧∀x,x∈l→0≤x∧x<(n':Int)):=fun l hl=>by
  have h1:=G.lineLen hl
  have h2:=G.len
  exact ⟨h1.1,fun x hx=>by have:=h1.2 x hx;omega⟩
 have HBG:=Lib.hid (fun w1 (hb:Below w.heap.size w w1)=>rbegin_c a n c cells sum a' n' c' g w1 (h'.mono hb) hn2 (fun k hk=>by have h1:=G.num k (by omega);have h2:=G.len;omega))
 have HNX:=Lib.hid (fun w1 (hb:Below w.heap.size w w1) av cv Ms (hs:BS w1 av n' (n'+1) Ms) hB hne=>rnext_c a n c ls cells sum a' n' c' av n' cv Ms w1 (h.mono hb) hs hB hne hll.out ⟨G.sum1,G.sum2⟩)
 have HIT:Hid (∀k,((iterR ls sum (allM n') k (begL g)).2).length=n'∧BoundC (iterR ls sum (allM n') k (begL g)).2 n'):=fun k=>⟨by rw[iterR_len];unfold begL;rw[List.length_map,hgl],iter_bound k _ (by have hb:=begL_bound (g:=g) (fun k hk=>by have h1:=G.num k hk;have h2:=G.len;omega);rw[hgl] at hb;exact hb)⟩
 have HND:Hid (∀l,l∈ls→l.Nodup):=fun l hl=>G.nodup hl
 have HRO:Hid (RulesEnd w ls sum g n'):=fun k ao no co v pre w' e1 e2 e3 e4 e5=>by unfold RulesOut;rw[hgl];exact ⟨k,ao,no,co,v,pre,rfl,e1,e2,e3,e4,e5⟩
 clear h h' G hgl
 go_enter Tryz.func27,Tryz.ntmps27
 go_wp2_with fail
 have fsz:(w.alloc (.cells #[.int .i64 cells,.slice a n c,.int .i64 sum,.slice a' n' c'] 28)).heap.size=w.heap.size+1:=by simp only[World.size_alloc]
 have fB:Below w.heap.size w (w.alloc (.cells #[.int .i64 cells,.slice a n c,.int .i64 sum,.slice a' n' c'] 28)):=(Below.refl _ _).alloc (Nat.le_refl _) _
 have fq0:(w.alloc (.cells #[.int .i64 cells,.slice a n c,.int .i64 sum,.slice a' n' c'] 28)).heap[w.heap.size]?=some (.cells #[.int .i64 cells,.slice a n c,.int .i64 sum,.slice a' n' c'] 28 (0,0)):=by have h:=World.alloc_heap_new w (.cells #[.int .i64 cells,.slice a n c,.int .i64 sum,.slice a' n' c'] 28);exact h
 generalize (w.alloc (.cells #[.int .i64 cells,.slice a n c,.int .i64 sum,.slice a' n' c'] 28))=W0 at fsz fB fq0 ⊢
 have HT:=Lib.hid fq0
 have fsz':w.heap.size<W0.heap.size:=by omega
 have x0:=q_cell fq0 0
 have x1:=q_cell fq0 1
 have x2:=q_cell fq0 2
 have x3:=q_cell fq0 3
 have xl:=q_lt fq0
 clear fq0 fsz
 go_wp2_with fail
 refine (HBG.out W0 fB).mono ?_
 rintro _ W2 ⟨v,vs,rfl,hob,hvl,hb2⟩
 obtain ⟨av,cv,e9⟩:=owns_shape hob.own
 subst e9
 have hs2:=hb2.size
 rw[hvl] at hob ⊢
 have HVL:=Lib.hid hvl
 have HLT:Hid (∀(k b c9:Nat),vs[k]?=some (Value.slice (some ⟨b,0,none⟩) (n'+1) c9)→b<W2.heap.size):=fun k b c9 e=>by
  have hj:=(List.getElem?_eq_some_iff.1 e).1
  obtain ⟨g7,c7,e7,ho7,_⟩:=hob.row k hj
  rw[e7] at e
  cases e
  exact (ho7.lt b rfl).2
 have HLV:Hid (∀j,(Value.slice av n' cv).ownBlock=some j→j<W2.heap.size):=fun j e=>(hob.own.lt j e).2
 have HOB:=Lib.hid hob
 clear x0 x1 x2 x3 xl hvl hob HBG
 go_wp2_with fail
 have hc0:0+candN (begL g)≤65536:=by
  have h1:=candN_le (begL g)
  have h2:(begL g).length=n':=(HIT.out 0).1
  rw[h2] at h1
  omega
 go_loopg [5,6,7] (candN (begL g)) (fun gk ov _ _ wv=>∃(k:Nat) (ao:Option Addr) (co:Nat),gk=candN (iterR ls sum (allM n') k (begL g)).2∧RulI ls sum g n' vs W0 W2 av cv k ao co wv∧ov = .slice ao (iterR ls sum (allM n') k (begL g)).1.length co)
 case atStart=>exact ⟨0,none,0,rfl,⟨World.ownsRow_nil _ _ _ _,HOB.out,hb2,Nat.le_refl _,hc0⟩,rfl⟩
 case round =>
  obtain ⟨k,ao,co,rfl,hI,rfl⟩:=hrel
  have hBr:=keep_trans fB hI.bel
  have hIT:=HIT.out k
  have HSN:Hid (∀r,stepR ls sum (allM n') (iterR ls sum (allM n') k (begL g)).2=some r→iterR ls sum (allM n') (k+1) (begL g)=((iterR ls sum (allM n') k (begL g)).1++[r],dropR (iterR ls sum (allM n') k (begL g)).2 r)):=fun r e=>iterR_snoc k _ e
  have HOK:Hid (∀r,stepR ls sum (allM n') (iterR ls sum (allM n') k (begL g)).2=some r→RemOk (iterR ls sum (allM n') k (begL g)).2 r):=fun r e=>stepR_ok (by rw[hIT.1];exact fun l hl x hx=>(hll.out l hl).2 x hx) e
  have HCE:Hid (contraQ (iterR ls sum (allM n') k (begL g)).2=contraB (iterR ls sum (allM n') k (begL g)).2 (allM n')):=by have:=contra_eq (Ms:=(iterR ls sum (allM n') k (begL g)).2) (by rw[hIT.1];exact hn2) (by rw[hIT.1];exact hIT.2);rw[hIT.1] at this;exact this
  have HNE:Hid (contraB (iterR ls sum (allM n') k (begL g)).2 (allM n')=false→nextQ ls sum (iterR ls sum (allM n') k (begL g)).2=stepR ls sum (allM n') (iterR ls sum (allM n') k (begL g)).2):=fun e=>next_eq (by rw[hIT.1];exact hn2) (by rw[hIT.1];exact hIT.2) HND.out (by rw[hIT.1];exact fun l hl=>(hll.out l hl).2) e
  have HRO:=Lib.hid (HRO.out k)
  obtain ⟨⟨R,Ms⟩,hRM⟩:∃X,iterR ls sum (allM n') k (begL g)=X:=⟨_,rfl⟩
  have HI:=Lib.hid hI
  have hown:=hI.own
  have hob:=hI.ob
  have hle:=hI.le
  rw[hRM] at hIT HSN HOK HCE HNE HRO hown hob hle ⊢
  have HRM:=Lib.hid hRM
  clear hRM
  simp only at hIT HSN HOK HCE HNE HRO hown hob hle ⊢
  obtain ⟨av9,cv9,e9,hbs⟩:=hob.bs (by rw[HVL.out];exact hn2) (by omega) (by omega)
  rw[HVL.out] at e9 hbs
  cases e9
  have HBS:=Lib.hid hbs
  have HMB:=Lib.hid hIT.2
  have HML:=Lib.hid hIT.1
  have HCC:=Lib.hid (rcontra_c av n' cv Ms wr hbs)
  have x0:=q_cell (keepq hI.bel HT.out) 0
  have x1:=q_cell (keepq hI.bel HT.out) 1
  have x2:=q_cell (keepq hI.bel HT.out) 2
  have x3:=q_cell (keepq hI.bel HT.out) 3
  have xl:=q_lt (keepq hI.bel HT.out)
  have HOW:=Lib.hid hown
  have HOB3:=Lib.hid hob
  have hWs:=hI.size
  clear hIT hown hob hbs hI
  cases hcq:contraQ Ms with
  | true =>
   have hcq0:=hcq
   rw[hcq] at HCC HCE
   have HEND:Hid (stepR ls sum (allM n') Ms=none):=stepR_contra HCE.out.symm
   have HCL:Hid (candL (allM n') Ms=Ms.map fun _=>[]):=by unfold Hid candL;rw[if_pos HCE.out.symm]
   clear hcq HSN HOK HNE HNX x0 x1 x2 x3 xl
   have hBX:Below w.heap.size w wr:=hBr
   go_wp2_with (first|(go_at_call 76;refine HCC.out.mono ?_;rintro _ _ ⟨rfl,rfl⟩))
   have HCQ:Hid (contraQ Ms=true):=hcq0
   have HBX:=HBS
   have HWX:=HOW
   have hXW:w.heap.size≤wr.heap.size:=hBX.size
   obtain ⟨WX,hWX⟩:∃x,x=wr:=⟨_,rfl⟩
   rw[← hWX] at HBX HWX hXW hBX ⊢
   clear hWX
   have HCX:Hid (∀W,Below WX.heap.size WX W→Calls Tryz.prog 76 #[.slice av n' cv] W fun e w'=>e = .returned (.bool true)∧W=w'):=fun W hb=>by
    have h:=rcontra_c av n' cv Ms W (HBX.out.mono hb)
    rw[HCQ.out] at h
    exact h
   have HEL:Hid (∀i,i<n'→(candL (allM n') Ms)[i]?=some ([])):=fun i hi=>by
    rw[HCL.out,List.getElem?_map,List.getElem?_eq_getElem (by rw[HML.out];exact hi)]
    rfl
   have hCLn:(candL (allM n') Ms).length=n':=by rw[HCL.out,List.length_map,HML.out]
   have HCLN:=Lib.hid hCLn
   clear hCLn HCL
   go_loopw [8,9,10,11] (fun lv iv _ _ wr=>∃(i:Nat) (pre:List (Value × List Int)),i≤n'∧iv = .int .i64 i∧RowsI wr noB WX.heap.size lv pre∧pre.map Prod.snd=(candL (allM n') Ms).take i∧Below WX.heap.size WX wr) (fun _ iv _ _ _=>n' - (intOf iv).toNat)
   case atStart=>exact ⟨0,[],by omega,rfl,RowsI.nil _ _ _,rfl,Below.refl _ _⟩
   case round =>
    obtain ⟨i,pre,hi,rfl,hrow,hpre,hbr⟩:=hrel
    obtain ⟨al,cl,e9⟩:=owns_shape hrow.1
    subst e9
    have hpl:pre.length=i:=by
     have h:=congrArg List.length hpre
     rw[List.length_map,List.length_take,HCLN.out] at h
     omega
    have HPL:=Lib.hid hpl
    have hpl2:pre.length≤256:=by omega
    have HROW:=Lib.hid hrow
    have HPRE:=Lib.hid hpre
    have hXs:=hbr.size
    clear hpl hrow hpre
    by_cases hlt:i<n'
    ·have hii:(i:Int)<(n':Int):=by omega
     obtain ⟨b,off,a2,c2,e2,hb,hc,hbits,_⟩:=(HBX.out.mono hbr).2 i hlt
     subst e2
     have HBI:=Lib.hid hbits
     have HTK:Hid ((candL (allM n') Ms).take (i+1)=(candL (allM n') Ms).take i++[[]]):=by
      unfold Hid
      rw[List.take_add_one,HEL.out i hlt]
      rfl
     have HMI:=Lib.hid (HMB.out i)
     obtain ⟨Mi,hMi⟩:∃x,Ms[i]?.getD 0=x:=⟨_,rfl⟩
     have HMI2:=Lib.hid hMi
     rw[hMi] at HMI HBI
     clear hMi hbits
     go_wp2_with fail
     go_loopg [10,11] n' (fun gk lv mv wv=>∃(m:Nat) (cur:List Int),gk=n' - m∧m≤n'∧mv = .int .i64 ((m:Int)+1)∧cur=[]∧wv.ownsRow wr.heap.size 3 1 lv cur.length (cur.map (Value.int .i64))∧Below wr.heap.size wr wv)
     case atStart=>exact ⟨0,[],by omega,by omega,rfl,rfl,World.ownsRow_nil _ _ _ _,Below.refl _ _⟩
     case round =>
      obtain ⟨m,cur,rfl,hm,rfl,hcur,hown,hbm⟩:=hrel
      obtain ⟨aq,cq,e9⟩:=owns_shape hown
      subst e9
      have HCUR:=Lib.hid hcur
      have hbW:=keep_trans hbr hbm
      have y1:=((bcell hbm).1 b _ hb).trans hc
      have y1l:=Nat.lt_of_lt_of_le hb hbm.size
      have hCX:=HCX.out _ hbW
      have HCC:=Lib.hid hCX
      clear hcur hCX
      by_cases hltm:m<n'
      ·have hmi:(m:Int)+1<((n'+1:Nat):Int):=by omega
       obtain ⟨b2,off2,e2,hb2,hc2⟩:=(HBI.out.mono hbm) (m+1) (by omega)
       subst e2
       rw[decide_eq_true (show 0<m+1 by omega),Bool.true_and,show m+1 - 1=m from by omega] at hc2
       have HOWN:=Lib.hid hown
       clear hown
       cases hbit:Mi.testBit m with
       | false =>
        rw[hbit] at hc2
        clear hbit
        go_wp2_with fail
        go_roundg (n' - (m+1))
        case measure=>omega
        case rel=>exact ⟨m+1,cur,rfl,by omega,by go_num,HCUR.out,HOWN.out,hbm⟩
       | true =>
        rw[hbit] at hc2
        clear hbit
        go_wp2_with (first|(go_at_call 76;refine HCC.out.mono ?_;rintro _ _ ⟨rfl,rfl⟩))
        go_roundg (n' - (m+1))
        case measure=>omega
        case rel=>exact ⟨m+1,cur,rfl,by omega,by go_num,HCUR.out,HOWN.out,hbm⟩
      ·have e:n'=m:=by omega
       subst e
       have hmi:¬(n':Int)+1<((n'+1:Nat):Int):=by omega
       have hrow2:=HROW.out.below hbm
       have HR2:=Lib.hid hrow2
       have hra:=hrow2.1
       have HOWN:=Lib.hid hown
       have HVB:Hid (∀k,(Value.slice al pre.length cl).ownBlock=some k→WX.heap.size≤k∧k<_):=fun k e=>HROW.out.1.lt k e
       clear hrow2 hown
       go_wp2_with (first|(at_builtin;refine wpList_append_own2 _ rfl _ _ 22 rfl 25 i2 (.slice none 0 0) 1 24 Tryz.underlying22 hi2 hy0 hy1 hy2 rfl (by decide) _ _ _ rfl (owns_base (hra.alloc _) (Nat.zero_le _)) ⟨wr.heap.size,0,none⟩ 1 1 [.slice aq cur.length cq] rfl rfl (cell_one_new _ _ _) (by simp[Value.oneCell']) (by unfold maxLen;omega) (by omega) ?_))
       intro v' w8 hown' hgrow hnew
       have hs8:=grow_stays hgrow
       have hwsz:=hbm.size
       have hnew2:∀k,v'.ownBlock=some k→(Value.slice al pre.length cl).ownBlock=some k∨wr.heap.size≤k:=fun k e=>(hnew k e).imp id (fun h=>by first|omega|(simp at h;omega))
       have hup:∀k,v'.ownBlock=some k→WX.heap.size≤k:=fun k e=>(hnew2 k e).elim (fun h=>(HVB.out k h).1) (fun h=>by omega)
       have hrow8:=HR2.out.append (x:=((Value.slice aq cur.length cq),cur)) (v':=v') (fun k e=>e.elim) (owns_base HOWN.out hXs) (fun k e=>⟨fun h=>h,fun h2=>by have:=(HVB.out k h2).2;have:=owns_ge HOWN.out e;omega⟩) hs8 (owns_up hown' hup) hnew2
       have hB8:Below WX.heap.size WX w8:=(keep_trans hbr hbm).trans (hs8.below (by omega) (fun k e=>(HVB.out k e).1))
       have HR8:=Lib.hid hrow8
       have hfin:(pre++[((Value.slice aq cur.length cq),cur)]).map Prod.snd=(candL (allM n') Ms).take (i+1):=by
        rw[List.map_append,HPRE.out,HTK.out]
        show _++[cur]=_
        rw[HCUR.out]
       have HFIN:=Lib.hid hfin
       clear hown' hgrow hnew hrow8 hs8 hup hfin
       obtain ⟨a8,c8,e8⟩:=owns_shape HR8.out.1
       subst e8
       go_wp2_with fail
       go_roundw
       case rel=>exact ⟨i+1,_,by omega,by go_num,HR8.out,HFIN.out,hB8⟩
       case measure=>simp[intOf];omega
    ·have e:n'=i:=by omega
     subst e
     have hii:¬(n':Int)<(n':Int):=by omega
     have hpre:=HPRE.out
     rw[List.take_of_length_le (by rw[HCLN.out];exact Nat.le_refl _)] at hpre
     have hrm:=(rm_of_owns (owns_keep HWX.out (fun k _ hl=>hbr.block k hl)) (by omega)).1
     have hfin:=HRO.out ao R.length co (.slice al pre.length cl) pre wr HEND.out hrm (HROW.out.base hXW) hpre (keep_trans hBX hbr)
     have HFIN:=Lib.hid hfin
     clear hpre hrm hfin
     go_wp2_with fail
     go_ret2
     exact HFIN.out
  | false =>
   have hcq0:=hcq
   rw[hcq] at HCC HCE
   have hcb:contraB Ms (allM n')=false:=HCE.out.symm
   have HNXT:=Lib.hid (HNX.out wr hBr av cv Ms HBS.out HMB.out (fun i hi=>contraQ_ne hcq i (by rw[HML.out];exact hi)))
   rw[HNE.out hcb] at HNXT
   have HCB:=Lib.hid hcb
   have HCQ:=Lib.hid hcq0
   clear hcq hcq0 hcb HNE HNX HCE
   cases hst:stepR ls sum (allM n') Ms with
   | none =>
    rw[hst] at HNXT
    simp only[optV,Option.isSome_none] at HNXT
    have HEND:=Lib.hid hst
    have HCL:Hid (candL (allM n') Ms=Ms.map elemsM):=by unfold Hid candL;rw[if_neg (by rw[HCB.out];decide)]
    clear hst HSN HOK
    go_upto_region 4 with (first|(go_at_call 76;refine HCC.out.mono ?_;rintro _ _ ⟨rfl,rfl⟩))
    go_wp2_with fail
    refine HNXT.out.mono ?_
    rintro _ w3 ⟨rfl,hb3⟩
    clear x0 x1 x2 x3 xl
    go_upto_region 5 with fail
    have psz:(w3.alloc (.cells #[.string ⟨#[]⟩,.int .i64 0,.int .i64 0,.int .i64 0] 55)).heap.size=w3.heap.size+1:=by simp only[World.size_alloc]
    have pB:Below w3.heap.size w3 (w3.alloc (.cells #[.string ⟨#[]⟩,.int .i64 0,.int .i64 0,.int .i64 0] 55)):=(Below.refl _ _).alloc (Nat.le_refl _) _
    have pq0:(w3.alloc (.cells #[.string ⟨#[]⟩,.int .i64 0,.int .i64 0,.int .i64 0] 55)).heap[w3.heap.size]?=some (.cells #[.string ⟨#[]⟩,.int .i64 0,.int .i64 0,.int .i64 0] 55 (0,0)):=by have h:=World.alloc_heap_new w3 (.cells #[.string ⟨#[]⟩,.int .i64 0,.int .i64 0,.int .i64 0] 55);exact h
    generalize (w3.alloc (.cells #[.string ⟨#[]⟩,.int .i64 0,.int .i64 0,.int .i64 0] 55))=WX at psz pB pq0 ⊢
    have hbx:=keep_trans hb3 pB
    have hBX:=keep_trans hBr hbx
    have HBX:=Lib.hid (HBS.out.mono hbx)
    have HWX:=Lib.hid (owns_keep HOW.out (fun k _ hl=>hbx.block k hl))
    have hXW:w.heap.size≤WX.heap.size:=hBX.size
    clear psz pq0 pB hb3 hbx
    go_wp2_with fail
    have HCX:Hid (∀W,Below WX.heap.size WX W→Calls Tryz.prog 76 #[.slice av n' cv] W fun e w'=>e = .returned (.bool false)∧W=w'):=fun W hb=>by
     have h:=rcontra_c av n' cv Ms W (HBX.out.mono hb)
     rw[HCQ.out] at h
     exact h
    have HEL:Hid (∀i,i<n'→(candL (allM n') Ms)[i]?=some (elemsM (Ms[i]?.getD 0))):=fun i hi=>by
     rw[HCL.out,List.getElem?_map,List.getElem?_eq_getElem (by rw[HML.out];exact hi)]
     rfl
    have hCLn:(candL (allM n') Ms).length=n':=by rw[HCL.out,List.length_map,HML.out]
    have HCLN:=Lib.hid hCLn
    clear hCLn HCL
    go_loopw [8,9,10,11] (fun lv iv _ _ wr=>∃(i:Nat) (pre:List (Value × List Int)),i≤n'∧iv = .int .i64 i∧RowsI wr noB WX.heap.size lv pre∧pre.map Prod.snd=(candL (allM n') Ms).take i∧Below WX.heap.size WX wr) (fun _ iv _ _ _=>n' - (intOf iv).toNat)
    case atStart=>exact ⟨0,[],by omega,rfl,RowsI.nil _ _ _,rfl,Below.refl _ _⟩
    case round =>
     obtain ⟨i,pre,hi,rfl,hrow,hpre,hbr⟩:=hrel
     obtain ⟨al,cl,e9⟩:=owns_shape hrow.1
     subst e9
     have hpl:pre.length=i:=by
      have h:=congrArg List.length hpre
      rw[List.length_map,List.length_take,HCLN.out] at h
      omega
     have HPL:=Lib.hid hpl
     have hpl2:pre.length≤256:=by omega
     have HROW:=Lib.hid hrow
     have HPRE:=Lib.hid hpre
     have hXs:=hbr.size
     clear hpl hrow hpre
     by_cases hlt:i<n'
     ·have hii:(i:Int)<(n':Int):=by omega
      obtain ⟨b,off,a2,c2,e2,hb,hc,hbits,_⟩:=(HBX.out.mono hbr).2 i hlt
      subst e2
      have HBI:=Lib.hid hbits
      have HTK:Hid ((candL (allM n') Ms).take (i+1)=(candL (allM n') Ms).take i++[elemsM (Ms[i]?.getD 0)]):=by
       unfold Hid
       rw[List.take_add_one,HEL.out i hlt]
       rfl
      have HMI:=Lib.hid (HMB.out i)
      obtain ⟨Mi,hMi⟩:∃x,Ms[i]?.getD 0=x:=⟨_,rfl⟩
      have HMI2:=Lib.hid hMi
      rw[hMi] at HTK HMI HBI
      clear hMi hbits
      go_wp2_with fail
      go_loopg [10,11] n' (fun gk lv mv wv=>∃(m:Nat) (cur:List Int),gk=n' - m∧m≤n'∧mv = .int .i64 ((m:Int)+1)∧cur=elemsTo Mi m∧wv.ownsRow wr.heap.size 3 1 lv cur.length (cur.map (Value.int .i64))∧Below wr.heap.size wr wv)
      case atStart=>exact ⟨0,[],by omega,by omega,rfl,rfl,World.ownsRow_nil _ _ _ _,Below.refl _ _⟩
      case round =>
       obtain ⟨m,cur,rfl,hm,rfl,hcur,hown,hbm⟩:=hrel
       obtain ⟨aq,cq,e9⟩:=owns_shape hown
       subst e9
       have HCUR:=Lib.hid hcur
       have hbW:=keep_trans hbr hbm
       have y1:=((bcell hbm).1 b _ hb).trans hc
       have y1l:=Nat.lt_of_lt_of_le hb hbm.size
       have hCX:=HCX.out _ hbW
       have HCC:=Lib.hid hCX
       clear hcur hCX
       by_cases hltm:m<n'
       ·have hmi:(m:Int)+1<((n'+1:Nat):Int):=by omega
        obtain ⟨b2,off2,e2,hb2,hc2⟩:=(HBI.out.mono hbm) (m+1) (by omega)
        subst e2
        rw[decide_eq_true (show 0<m+1 by omega),Bool.true_and,show m+1 - 1=m from by omega] at hc2
        have HES:=Lib.hid (elemsTo_succ Mi m)
        have hel:cur.length≤256:=by
         rw[HCUR.out]
         unfold elemsTo
         rw[List.length_map]
         have:=List.length_filter_le (fun i=>Mi.testBit i) (List.range m)
         simp at this
         omega
        cases hbit:Mi.testBit m with
        | false =>
         have HOWN:=Lib.hid hown
         clear hown
         rw[hbit] at hc2 HES
         clear hbit
         go_wp2_with (first|(go_at_call 76;refine HCC.out.mono ?_;rintro _ _ ⟨rfl,rfl⟩))
         go_roundg (n' - (m+1))
         case measure=>omega
         case rel=>exact ⟨m+1,cur,rfl,by omega,by go_num,by rw[HES.out,HCUR.out];simp,HOWN.out,hbm⟩
        | true =>
         rw[hbit] at hc2 HES
         clear hbit
         go_wp2_with (first|(go_at_call 76;refine HCC.out.mono ?_;rintro _ _ ⟨rfl,rfl⟩)|(at_builtin;refine wpList_append_own _ rfl _ _ 25 rfl _ 3 i1 (.int .i64 0) 1 8 Tryz.underlying25 hi1 hx0 hx1 hx2 rfl (by decide) _ _ _ rfl (hown.alloc _) ⟨wr.heap.size,0,none⟩ 1 1 [.int .i64 ((m:Int)+1)] rfl rfl (cell_one_new _ _ _) (by simp[Value.oneCell']) (by unfold maxLen;omega) (by omega) (by have:=hbm.size;simp;omega) ?_;intro v5 w5 hown5 hgrow _))
         have hl6:cur.length+1=(cur++[((m:Int)+1)]).length:=by simp
         have hm6:cur.map (Value.int .i64)++[Value.int .i64 ((m:Int)+1)]=(cur++[((m:Int)+1)]).map (Value.int .i64):=by simp
         have hown6:=hown5
         rw[hl6,hm6] at hown6
         have hb5:=hbm.trans ((grow_stays hgrow).below hbm.size (fun k e=>owns_ge hown e))
         obtain ⟨a5,c5,e5⟩:=owns_shape hown6
         subst e5
         have HOWN:=Lib.hid hown6
         clear hown5 hown6 hgrow hown hl6 hm6
         go_roundg (n' - (m+1))
         case measure=>omega
         case rel=>exact ⟨m+1,cur++[((m:Int)+1)],rfl,by omega,by go_num,by rw[HES.out,HCUR.out];simp,HOWN.out,hb5⟩
       ·have e:n'=m:=by omega
        subst e
        have hmi:¬(n':Int)+1<((n'+1:Nat):Int):=by omega
        have hrow2:=HROW.out.below hbm
        have HR2:=Lib.hid hrow2
        have hra:=hrow2.1
        have HOWN:=Lib.hid hown
        have HVB:Hid (∀k,(Value.slice al pre.length cl).ownBlock=some k→WX.heap.size≤k∧k<_):=fun k e=>HROW.out.1.lt k e
        clear hrow2 hown
        go_wp2_with (first|(at_builtin;refine wpList_append_own2 _ rfl _ _ 22 rfl 25 i2 (.slice none 0 0) 1 24 Tryz.underlying22 hi2 hy0 hy1 hy2 rfl (by decide) _ _ _ rfl (owns_base (hra.alloc _) (Nat.zero_le _)) ⟨wr.heap.size,0,none⟩ 1 1 [.slice aq cur.length cq] rfl rfl (cell_one_new _ _ _) (by simp[Value.oneCell']) (by unfold maxLen;omega) (by omega) ?_))
        intro v' w8 hown' hgrow hnew
        have hs8:=grow_stays hgrow
        have hwsz:=hbm.size
        have hnew2:∀k,v'.ownBlock=some k→(Value.slice al pre.length cl).ownBlock=some k∨wr.heap.size≤k:=fun k e=>(hnew k e).imp id (fun h=>by first|omega|(simp at h;omega))
        have hup:∀k,v'.ownBlock=some k→WX.heap.size≤k:=fun k e=>(hnew2 k e).elim (fun h=>(HVB.out k h).1) (fun h=>by omega)
        have hrow8:=HR2.out.append (x:=((Value.slice aq cur.length cq),cur)) (v':=v') (fun k e=>e.elim) (owns_base HOWN.out hXs) (fun k e=>⟨fun h=>h,fun h2=>by have:=(HVB.out k h2).2;have:=owns_ge HOWN.out e;omega⟩) hs8 (owns_up hown' hup) hnew2
        have hB8:Below WX.heap.size WX w8:=(keep_trans hbr hbm).trans (hs8.below (by omega) (fun k e=>(HVB.out k e).1))
        have HR8:=Lib.hid hrow8
        have hfin:(pre++[((Value.slice aq cur.length cq),cur)]).map Prod.snd=(candL (allM n') Ms).take (i+1):=by
         rw[List.map_append,HPRE.out,HTK.out]
         show _++[cur]=_
         rw[HCUR.out,elems_small hn2 HMI.out]
        have HFIN:=Lib.hid hfin
        clear hown' hgrow hnew hrow8 hs8 hup hfin
        obtain ⟨a8,c8,e8⟩:=owns_shape HR8.out.1
        subst e8
        go_wp2_with fail
        go_roundw
        case rel=>exact ⟨i+1,_,by omega,by go_num,HR8.out,HFIN.out,hB8⟩
        case measure=>simp[intOf];omega
     ·have e:n'=i:=by omega
      subst e
      have hii:¬(n':Int)<(n':Int):=by omega
      have hpre:=HPRE.out
      rw[List.take_of_length_le (by rw[HCLN.out];exact Nat.le_refl _)] at hpre
      have hrm:=(rm_of_owns (owns_keep HWX.out (fun k _ hl=>hbr.block k hl)) (by omega)).1
      have hfin:=HRO.out ao R.length co (.slice al pre.length cl) pre wr HEND.out hrm (HROW.out.base hXW) hpre (keep_trans hBX hbr)
      have HFIN:=Lib.hid hfin
      clear hpre hrm hfin
      go_wp2_with fail
      go_ret2
      exact HFIN.out
   | some r =>
    obtain ⟨q,x,y,z⟩:=r
    obtain ⟨S,hS⟩:=ruleS_str q
    rw[hst] at HNXT
    simp only[optV,remV,Option.isSome_some,hS] at HNXT
    have hok:=HOK.out _ hst
    have hsn:=HSN.out _ hst
    have HSN1:=Lib.hid hsn
    have HDR:=Lib.hid (candN_drop hok)
    obtain ⟨hx,hy1,_,hyb⟩:=hok
    simp only at hx hy1 hyb
    rw[HML.out] at hx
    have hyn:y≤n':=by have:=HMB.out _ _ hyb;omega
    have HSS:=Lib.hid hS
    clear hst HSN HOK hsn hyb HRO HCC hS
    have HCC2:=Lib.hid (rcontra_c av n' cv Ms wr HBS.out)
    rw[HCQ.out] at HCC2
    go_upto_region 4 with (first|(go_at_call 76;refine HCC2.out.mono ?_;rintro _ _ ⟨rfl,rfl⟩))
    go_wp2_with fail
    refine HNXT.out.mono ?_
    rintro _ w3 ⟨rfl,hb3⟩
    clear x0 x1 x2 x3 xl
    go_upto_region 5 with fail
    have psz:(w3.alloc (.cells #[.string S,.int .i64 x,.int .i64 y,.int .i64 z] 55)).heap.size=w3.heap.size+1:=by simp only[World.size_alloc]
    have pB:Below w3.heap.size w3 (w3.alloc (.cells #[.string S,.int .i64 x,.int .i64 y,.int .i64 z] 55)):=(Below.refl _ _).alloc (Nat.le_refl _) _
    have pq0:(w3.alloc (.cells #[.string S,.int .i64 x,.int .i64 y,.int .i64 z] 55)).heap[w3.heap.size]?=some (.cells #[.string S,.int .i64 x,.int .i64 y,.int .i64 z] 55 (0,0)):=by have h:=World.alloc_heap_new w3 (.cells #[.string S,.int .i64 x,.int .i64 y,.int .i64 z] 55);exact h
    generalize (w3.alloc (.cells #[.string S,.int .i64 x,.int .i64 y,.int .i64 z] 55))=W4 at psz pB pq0 ⊢
    have hb4:=keep_trans hb3 pB
    have hs3:=hb3.size
    have hob4:=HOB3.out.below hb4
    obtain ⟨g7,c7,e7,ho7,hn7⟩:=hob4.row x (by rw[HVL.out];exact hx)
    obtain ⟨g9,c9,x9,e9,hx9,hc9,_,hl9,_⟩:=owns_free (owns_base hob4.own (Nat.zero_le _)) x (by rw[HVL.out];exact hx)
    rw[HVL.out] at e9
    rw[e7] at hx9
    cases hx9
    obtain ⟨g8,c8,x8,e8,_,hc8,hf8,hl8,_⟩:=owns_free (owns_base ho7 (Nat.zero_le _)) y (by omega)
    cases e8
    cases e9
    have hg7:=HLT.out x g7 c7 e7
    have hg70:=(ho7.lt g7 rfl).1
    have hdrp:=(hob4.drop hy1 e7).below (Below.refl _ _).drew
    have HOB5:=Lib.hid hdrp
    have HOW5:=Lib.hid (ownsRow_setCell_other (w:=W4) (owns_keep HOW.out (fun k _ hl=>hb4.block k hl)) (a:=⟨g7,y,none⟩) (fun e=>absurd (owns_ge HOW.out (k:=g7) e) (by omega)) (.bool false)).drew
    have hB5:Below W0.heap.size W0 (W4.setCell ⟨g7,y,none⟩ (.bool false)).drew:=((keep_trans HI.out.bel hb4).setCell (p:=⟨g7,y,none⟩) hg70 _).drew
    have HB5:=Lib.hid hB5
    have HP5:Hid ((W4.setCell ⟨g7,y,none⟩ (.bool false)).drew.heap[w3.heap.size]?=some (.cells #[.string S,.int .i64 x,.int .i64 y,.int .i64 z] 55 (0,0))):=q_other (W:=W4) (b':=g7) (i:=y) pq0 (by omega) (.bool false)
    have hxi:(x:Int)<(n':Int):=by omega
    have hyi:(y:Int)<((n'+1:Nat):Int):=by omega
    have p1:=q_cell pq0 1
    have p2:=q_cell pq0 2
    have pl:=q_lt pq0
    have hs4:=pB.size
    have h8s:=hb4.size
    clear hdrp hB5 hob4 ho7 hn7 psz pq0 pB hb3
    go_upto_region 6 with fail
    refine wp_region_S (fun w'=>∃u,w'=over (W4) u) [8] [(0,0),(0,1),(0,2),(0,3),(0,4),(0,5),(0,6),(0,7),(2,8)] (by kernel_rfl) (by kernel_rfl) (by exact ⟨_,below_over (by repeat (first|assumption|exact Below.refl _ _|refine keep_drew ?_|refine keep_alloc ?_ _|refine keep_trans ?_ (by assumption)))⟩) ?_
    dsimp only[pickOps,nthOp]
    repeat (first|(refine wpS_skip rfl (fun K hK=>?_);go_big_quiet_op;refine hK _ ?_;clear hK K)|(refine wpS_quiet rfl rfl (fun K hK=>?_);go_big_quiet_op;refine hK _ ?_;clear hK K))
    refine wpS_late _ _ _ rfl ?_
    dsimp only[List.map]
    go_wp2
    refine NoPanic.normal ?_
    clear p1 p2 pl hc8 hc9 hf8 hl8 hl9
    have hs5:(W4.setCell ⟨g7,y,none⟩ (.bool false)).drew.heap.size=W4.heap.size:=by show (W4.setCell ⟨g7,y,none⟩ (.bool false)).heap.size=_;simp[World.setCell]
    generalize (W4.setCell ⟨g7,y,none⟩ (.bool false)).drew=W5 at HOB5 HOW5 HB5 HP5 hs5 ⊢
    have hW25:W2.heap.size≤W5.heap.size:=by omega
    clear hs5
    have p0:=q_cell HP5.out 0
    have p1:=q_cell HP5.out 1
    have p2:=q_cell HP5.out 2
    have p3:=q_cell HP5.out 3
    have pl:=q_lt HP5.out
    have hout5:=HOW5.out
    go_wp2_with (first|(at_builtin;refine wpList_append_own _ rfl _ _ 50 rfl W2.heap.size 55 i0 (.agg #[.string ⟨#[]⟩,.int .i64 0,.int .i64 0,.int .i64 0]) 4 40 Tryz.underlying50 hi hz0 hzz hz2 rfl (by decide) _ _ _ rfl (hout5.alloc _) ⟨W5.heap.size,0,none⟩ 1 1 [.string S,.int .i64 (x:Nat),.int .i64 (y:Nat),.int .i64 z] rfl rfl (cell_new4 _ _ _ _ _ _) (by simp[Value.oneCell']) (by unfold maxLen;omega) (by omega) (by simp;omega) ?_))
    intro v8 W8 hown8 hgr8 _
    obtain ⟨a8,c8,e8⟩:=owns_slice4 hown8
    subst e8
    have hs8:=grow_s0 hgr8
    have hB8:Below W2.heap.size W5 W8:=hs8.below hW25 (fun k e=>owns_ge HOW5.out e)
    have hob8:=HOB5.out.upto HLV.out HLT.out hB8
    have hbel8:=HB5.out.trans (hB8.mono hs2)
    have hsz8:=hs8.size
    have hown8':W8.ownsRow W2.heap.size 55 4 (.slice a8 (R++[((q,x,y,z):Rem)]).length c8) (R++[((q,x,y,z):Rem)]).length (remsL (R++[(q,x,y,z)])):=by
     rw[remsL_snoc,List.length_append]
     show W8.ownsRow W2.heap.size _ 4 (.slice a8 (R.length+1) c8) (R.length+1) (remsL R++[ruleS q,.int .i64 x,.int .i64 y,.int .i64 z])
     rw[HSS.out]
     exact hown8
    have HI8:Hid (RulI ls sum g n' vs W0 W2 (some ⟨g9,0,none⟩) cv (k+1) a8 c8 W8):=by
     refine ⟨by rw[HSN1.out];exact hown8',by rw[HSN1.out];exact hob8,hbel8,by omega,by
      rw[HSN1.out]
      have h1:=HDR.out
      simp only[List.length_append,List.length_cons,List.length_nil]
      omega⟩
    clear hown8 hown8' hgr8 hs8 hB8 hob8 hbel8 hout5 p0 p1 p2 p3 pl
    go_wp2_with fail
    go_roundg (candN (dropR Ms (q,x,y,z)))
    case measure=>rw[HRM.out];exact HDR.out
    case rel=>exact ⟨k+1,a8,c8,by rw[HSN1.out],HI8.out,by rw[HSN1.out,List.length_append];rfl⟩
end
end Go.Proofs.YtcblpobiefmjmaaGreat
