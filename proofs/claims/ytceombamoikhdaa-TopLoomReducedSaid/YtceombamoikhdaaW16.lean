/- Texts J50 to O5 of this proof, in one file. -/
import Derived.Test.YtceombamoikhdaaW02
import Derived.Test.YtceombamoikhdaaW06
import Derived.Test.YtceombamoikhdaaW15
namespace Go.Proofs.Ytceombamoikhdaa
set_option maxRecDepth 100000
set_option maxHeartbeats 16000000
section
open Go Go.RowKit
attribute [local go_sem] over_cell
attribute [local go_sem] Oper.semAt_some
theorem latin_sqE {n:Nat} {cs:List Int} (L:Latin n cs):sqE 0 (n:Int) (n:Int) cs=0:=by
 have h1:sqB (n:Int) (n:Int) cs=true:=by
  unfold sqB
  rw[L.len,← Int.natCast_mul]
  simp only[Bool.and_eq_true,decide_eq_true_eq]
  exact ⟨⟨⟨trivial,by have:=L.pos;omega⟩,by have:=L.le;omega⟩,trivial⟩
 unfold sqE
 rw[if_pos h1]
 unfold symE
 rw[if_neg,if_neg]
 ·rw[Int.toNat_natCast,L.once];decide
 ·rw[Bool.not_eq_true,List.any_eq_false]
  intro x hx
  have:=L.num x hx
  simp only[Bool.or_eq_true,decide_eq_true_eq,Int.toNat_natCast]
  omega
theorem latin_two {n:Nat} {cs ds:List Int} (L:Latin n cs) (D:Latin n ds):orthV (n:Int) (n:Int) cs (n:Int) (n:Int) ds = .tuple #[.bool (meetR cs ds).isNone,.int .i64 0]:=by
 have h:twoE (n:Int) (n:Int) cs (n:Int) (n:Int) ds=0:=by
  unfold twoE
  rw[latin_sqE L,latin_sqE D]
  simp[whenV];rfl
 unfold orthV
 rw[if_pos h]
def FdE (w:World) (er:Int) (e:Ending) (w':World):Prop:=∃(r C:Int) (a:Option Addr) (m c:Nat),e = .returned (.tuple #[.agg #[.int .i64 r,.int .i64 C,.slice a m c],.int .i64 er])∧Below w.heap.size w w'
theorem fd_isNone {N:Nat} {a:Option Addr} {n c:Nat} {cs:List Int} {a':Option Addr} {n' c':Nat} {X:List Int} {w:World} (h:IC w a n cs) (h':IC w a' n' X) (L:Latin N cs) (D:Latin N X) :
  Calls Try.prog 9 #[.agg #[.int .i64 (N:Int),.int .i64 (N:Int),.slice a n c],.agg #[.int .i64 (N:Int),.int .i64 (N:Int),.slice a' n' c']] w (FdE w (if (meetR cs X).isNone=true then 0 else 9)):=by
 refine (fromdig_c N a n c cs a' n' c' X w h h' L.sq D.sq).mono ?_
 rintro e w' ⟨a2,c2,rfl,_,hb⟩
 rw[norB_orth L.sq D.sq]
 exact ⟨_,_,_,_,_,rfl,hb⟩
def foundTo (R:List (List Int)) (F:List Int) (j:Nat):Bool:=(List.range j).any fun i=>sameB (R[i]?.getD []) F
theorem foundTo_succ (R:List (List Int)) (F:List Int) (j:Nat):foundTo R F (j+1)=(foundTo R F j||sameB (R[j]?.getD []) F):=by
 unfold foundTo
 rw[List.range_succ,List.any_append,List.any_cons,List.any_nil,Bool.or_false]
theorem foundTo_all {R:List (List Int)} {F:List Int} (h:F∈R):foundTo R F R.length=true:=by
 obtain ⟨i,hi,e⟩:=List.getElem_of_mem h
 unfold foundTo
 rw[List.any_eq_true]
 refine ⟨i,List.mem_range.2 hi,?_⟩
 rw[List.getElem?_eq_getElem hi,Option.getD_some,e]
 unfold sameB
 exact decide_eq_true rfl
theorem topmain_c (N:Nat) (a:Option Addr) (n c:Nat) (cs:List Int) (w:World) (h:IC w a n cs) (hcap:n≤c) (L:Latin N cs) (h4:N≤4) :
  Calls Try.prog 3 #[.agg #[.int .i64 (N:Int),.int .i64 (N:Int),.slice a n c]] w fun e w'=>e = .returned (.bool true)∧Below w.heap.size w w':=by
 have HP:=Lib.hid (fun W=>pairs_c W)
 have hsm:=h.small
 have h0:=latin_sqE L
 have hn16:n≤16:=by rw[← h.len,L.len];exact Nat.mul_le_mul h4 h4
 have hd:decide ((16:Int)<(n:Int))=false:=decide_eq_false (by omega)
 have HCH:=Lib.hid (fun W (hb:Below w.heap.size w W)=>rcheck_c (N:Int) (N:Int) a n c cs W (h.mono hb))
 have HRF:=Lib.hid (fun W (hb:Below w.heap.size w W)=>lrefute_c N a n c cs W (h.mono hb) L.sq h0)
 have HCR:=Lib.hid (fun W (hb:Below w.heap.size w W)=>lcheckref_c N a n c cs (refV N cs) W (h.mono hb) L.sq h0)
 have HAL:=Lib.hid (fun W=>allred_c N L.pos (by omega) W)
 have HX:Hid (∀X,X∈redC N→Latin N X):=fun X hX=>redC_latin L.pos (by omega) hX
 have HCX:Hid (∀X W a' m' c',X∈redC N→IC W a' m' X→Calls Try.prog 4 #[.agg #[.int .i64 (N:Int),.int .i64 (N:Int),.slice a' m' c']] W fun e w'=>e = .returned (.int .i64 0)∧Below W.heap.size W w'):=fun X W a' m' c' hX hi=>by
  have:=rcheck_c (N:Int) (N:Int) a' m' c' X W hi
  rw[latin_sqE (HX.out X hX)] at this
  exact this
 have HFD:Hid (∀X W a' m' c',X∈redC N→IC W a n cs→IC W a' m' X→Calls Try.prog 9 #[.agg #[.int .i64 (N:Int),.int .i64 (N:Int),.slice a n c],.agg #[.int .i64 (N:Int),.int .i64 (N:Int),.slice a' m' c']] W (FdE W (if (meetR cs X).isNone=true then 0 else 9))):=fun X W a' m' c' hX hi hi'=>fd_isNone hi hi' L (HX.out X hX)
 have HOR:Hid (∀X W a' m' c',X∈redC N→IC W a n cs→IC W a' m' X→Calls Try.prog 10 #[.agg #[.int .i64 (N:Int),.int .i64 (N:Int),.slice a n c],.agg #[.int .i64 (N:Int),.int .i64 (N:Int),.slice a' m' c']] W fun e w'=>e = .returned (.tuple #[.bool (meetR cs X).isNone,.int .i64 0])∧Below W.heap.size W w'):=fun X W a' m' c' hX hi hi'=>by
  have:=orth_c (N:Int) (N:Int) (N:Int) (N:Int) a n c cs a' m' c' X W hi hi'
  rw[latin_two L (HX.out X hX)] at this
  exact this
 have HRD:Hid (∀W,Below w.heap.size w W→Calls Try.prog 11 #[.agg #[.int .i64 (N:Int),.int .i64 (N:Int),.slice a n c]] W (GridE W (N:Int) (N:Int) (reduL (-1) N cs) 0)):=fun W hb=>by
  have:=reduce_c (N:Int) (N:Int) a n c cs W (h.mono hb) hcap
  rw[h0,if_pos rfl] at this
  unfold redL at this
  rw[if_pos h0,Int.toNat_natCast] at this
  exact this
 have HME:=Lib.hid (redu_mem L (by omega))
 have HSQ:Hid ((reduL (-1) N cs).length≤17592186044416):=by show (reduL (-1) N cs).length≤_;rw[(redu_latin (x := -1) L).len];have:=Nat.mul_le_mul h4 h4;omega
 have H:=Lib.hid h
 have HE:Hid (refEr N cs=0→refuB N cs (refV N cs)=true∧∀X,X∈redC N→(meetR cs X).isNone=false):=fun h1=>⟨(refEr_ok L (HX.out _ HME.out) h1).1,fun X hX=>(refEr_ok L (HX.out X hX) h1).2⟩
 rw[h0] at HCH
 have h2:=refEr_two N cs
 have hN1:=L.pos
 have HNB:Hid ((redC N).length≤1000000000000):=Nat.le_trans (comp_len _ _ _) (frm_cnt N L.pos (by omega))
 clear h hcap L h0 hsm
 generalize refV N cs=v at HRF HCR HE
 generalize refEr N cs=er at HRF HE h2
 rcases h2 with rfl|rfl
 ·have hr:=(HE.out rfl).1
  rw[hr] at HCR
  rw[show whenV (!true) 19=0 from rfl] at HCR
  have HM0:=Lib.hid (HE.out rfl).2
  clear hr HE
  go_enter Try.func3,Try.ntmps3
  go_upto_region 1 with fail
  have fB:Below w.heap.size w (w.alloc (.cells #[.int .i64 (N:Int),.int .i64 (N:Int),.slice a n c] 24)):=(Below.refl _ _).alloc (Nat.le_refl _) _
  have FQ:Hid ((w.alloc (.cells #[.int .i64 (N:Int),.int .i64 (N:Int),.slice a n c] 24)).heap[w.heap.size]?=some (.cells #[.int .i64 (N:Int),.int .i64 (N:Int),.slice a n c] 24 (0,0))):=World.alloc_heap_new _ _
  generalize (w.alloc (.cells #[.int .i64 (N:Int),.int .i64 (N:Int),.slice a n c] 24))=W0 at fB FQ ⊢
  obtain ⟨x0,x1,x2,xl⟩:=c3_of FQ.out
  go_upto_region 9 with (first|(go_at_call 4;refine (HCH.out _ fB).mono ?_;rintro _ w2 ⟨rfl,hb2⟩;clear x0 x1 x2 xl;have q2:=keepq hb2 FQ.out;obtain ⟨x0,x1,x2,xl⟩:=c3_of q2)|(go_at_call 6;refine (HRF.out _ (keep_trans fB hb2)).mono ?_;rintro _ w3 ⟨rfl,hb3⟩;clear x0 x1 x2 xl;have q3:=keepq hb3 q2;obtain ⟨x0,x1,x2,xl⟩:=c3_of q3)|(go_at_call 7;refine (HAL.out _).mono ?_;rintro _ w4 ⟨aL,cL,rfl,hgl,hb4⟩;clear x0 x1 x2 xl;have q4:=keepq hb4 q3;obtain ⟨x0,x1,x2,xl⟩:=c3_of q4)|(go_at_call 8;refine (HCR.out _ (keep_trans (keep_trans (keep_trans fB hb2) hb3) hb4)).mono ?_;rintro _ w5 ⟨rfl,hb5⟩;clear x0 x1 x2 xl;have q5:=keepq hb5 q4;obtain ⟨x0,x1,x2,xl⟩:=c3_of q5))
  have HW:=Lib.hid (keep_trans (keep_trans (keep_trans (keep_trans fB hb2) hb3) hb4) hb5)
  have HGL:=Lib.hid (hgl.below hb5)
  have HQ:=Lib.hid q5
  clear hgl q2 q3 q4 q5 hb2 hb3 hb4 hb5 fB FQ HCR HRF HAL HCH
  obtain ⟨W,hW⟩:∃W,W=w5:=⟨_,rfl⟩
  rw[← hW] at HW HGL HQ x0 x1 x2 xl ⊢
  clear hW
  have hgl:=HGL.out
  go_wp2_with fail
  go_loopw [8,9,10,11,12,59] (fun _ _ _ _ _ iv wr=>∃k:Nat,k≤(redC N).length∧iv = .int .i64 (k:Int)∧Hid (Below W.heap.size W wr)) (fun _ _ _ _ _ iv _=>(redC N).length - (intOf iv).toNat)
  case atStart=>exact ⟨0,by omega,rfl,Below.refl _ _⟩
  case round =>
   obtain ⟨k,hk,rfl,hbr0⟩:=hrel
   clear hgl x0 x1 x2 xl
   by_cases hlt:k<(redC N).length
   ·have hbr:=hbr0.out
    obtain ⟨bL,oL,aX,cX,rfl,hbL,t0,t1,t2,icX,_⟩:=HGL.out.2 k hlt
    have hki:(k:Int)<((redC N).length:Int):=Int.ofNat_lt.2 hlt
    have hnb:=HNB.out
    have icX1:=Lib.hid (icX.mono hbr)
    have hbw:=Nat.lt_of_lt_of_le hbL hbr.size
    have t0:=(hbr.cell (p:=⟨bL,oL+3*k,none⟩) hbL).trans t0
    have t1:=(hbr.cell (p:=⟨bL,oL+(3*k+1),none⟩) hbL).trans t1
    have t2:=(hbr.cell (p:=⟨bL,oL+(3*k+2),none⟩) hbL).trans t2
    have HXM:Hid ((redC N)[k]?.getD []∈redC N):=by show (redC N)[k]?.getD []∈redC N;rw[List.getElem?_eq_getElem hlt];exact List.getElem_mem _
    obtain ⟨X,hX⟩:∃X,X=(redC N)[k]?.getD []:=⟨_,rfl⟩
    rw[← hX] at HXM icX1 t2
    rw[Nat.mul_comm 3 k] at t0 t1 t2
    rw[← Nat.add_assoc] at t1 t2
    clear icX hX
    have HQr:=Lib.hid (keepq hbr HQ.out)
    go_upto_region 12 with fail
    have gsz:(wr.alloc (.cells #[.int .i64 (N:Int),.int .i64 (N:Int),.slice aX X.length cX] 24)).heap.size=wr.heap.size+1:=by simp only[World.size_alloc]
    have gB:Below wr.heap.size wr (wr.alloc (.cells #[.int .i64 (N:Int),.int .i64 (N:Int),.slice aX X.length cX] 24)):=(Below.refl _ _).alloc (Nat.le_refl _) _
    have gq0:(wr.alloc (.cells #[.int .i64 (N:Int),.int .i64 (N:Int),.slice aX X.length cX] 24)).heap[wr.heap.size]?=some (.cells #[.int .i64 (N:Int),.int .i64 (N:Int),.slice aX X.length cX] 24 (0,0)):=by have h:=World.alloc_heap_new wr (.cells #[.int .i64 (N:Int),.int .i64 (N:Int),.slice aX X.length cX] 24);exact h
    generalize (wr.alloc (.cells #[.int .i64 (N:Int),.int .i64 (N:Int),.slice aX X.length cX] 24))=W6 at gsz gB gq0 ⊢
    have GQ:=Lib.hid gq0
    have icX':=Lib.hid (icX1.out.mono gB)
    have ic':=Lib.hid ((H.out.mono (keep_trans HW.out hbr)).mono gB)
    have HQ6:=keepq gB HQr.out
    obtain ⟨x0,x1,x2,xl⟩:=c3_of HQ6
    obtain ⟨y0,y1,y2,yl⟩:=c3_of gq0
    have hG6:=Lib.hid (keep_trans hbr gB)
    clear gsz gq0 t0 t1 t2 hbw
    cases hbv:(meetR cs X).isNone with
    | true =>
     have HBV:=Lib.hid hbv
     clear hbv
     exact absurd (HBV.out.symm.trans (HM0.out X HXM.out)) (by decide)
    | false =>
     have HBV:=Lib.hid hbv
     clear hbv
     go_wp2_with (first|(go_at_call 4;refine (HCX.out _ _ _ _ _ HXM.out icX'.out).mono ?_;rintro _ w7 ⟨rfl,hb7⟩;clear x0 x1 x2 xl y0 y1 y2 yl;have q7:=keepq hb7 HQ6;have p7:=keepq hb7 GQ.out;obtain ⟨x0,x1,x2,xl⟩:=c3_of q7;obtain ⟨y0,y1,y2,yl⟩:=c3_of p7)|(go_at_call 9;refine (HFD.out _ _ _ _ _ HXM.out (ic'.out.mono hb7) (icX'.out.mono hb7)).mono ?_;rw[HBV.out];rintro _ w8 ⟨rG,CG,aG,mG,cG,rfl,hb8⟩;have hb8a:=keep_alloc hb8 (.cells #[.int .i64 rG,.int .i64 CG,.slice aG mG cG] 24);clear x0 x1 x2 xl y0 y1 y2 yl;have q8:=keepq hb8a q7;have p8:=keepq hb8a p7;obtain ⟨x0,x1,x2,xl⟩:=c3_of q8;obtain ⟨y0,y1,y2,yl⟩:=c3_of p8)|(go_at_call 10;refine (HOR.out _ _ _ _ _ HXM.out ((ic'.out.mono hb7).mono hb8a) ((icX'.out.mono hb7).mono hb8a)).mono ?_;rw[HBV.out];rintro _ w9 ⟨rfl,hb9⟩)|fail)
     exact ⟨⟨k+1,by omega,by go_num,keep_trans (keep_trans (keep_trans hG6.out hb7) hb8a) hb9⟩,by simp[intOf];omega⟩
   ·have e:k=(redC N).length:=by omega
    have hbr:=hbr0.out
    have HQr:=Lib.hid (keepq hbr HQ.out)
    obtain ⟨x0,x1,x2,xl⟩:=c3_of HQr.out
    have hnb:=HNB.out
    clear hk hlt
    go_upto_region 20 with (first|(go_at_call 11;refine (HRD.out _ (keep_trans HW.out hbr)).mono ?_;rintro _ w7 ⟨a7,c7,rfl,hown7,hb7⟩))
    generalize reduL (-1) N cs=F at HME HSQ hown7 ⊢
    have icF:=Lib.hid (IC.own hown7 rfl HSQ.out).1
    clear hown7 x0 x1 x2 xl
    have gsz:(w7.alloc (.cells #[.int .i64 (N:Int),.int .i64 (N:Int),.slice a7 F.length c7] 24)).heap.size=w7.heap.size+1:=by simp only[World.size_alloc]
    have gB:Below w7.heap.size w7 (w7.alloc (.cells #[.int .i64 (N:Int),.int .i64 (N:Int),.slice a7 F.length c7] 24)):=(Below.refl _ _).alloc (Nat.le_refl _) _
    have gq0:(w7.alloc (.cells #[.int .i64 (N:Int),.int .i64 (N:Int),.slice a7 F.length c7] 24)).heap[w7.heap.size]?=some (.cells #[.int .i64 (N:Int),.int .i64 (N:Int),.slice a7 F.length c7] 24 (0,0)):=by have h:=World.alloc_heap_new w7 (.cells #[.int .i64 (N:Int),.int .i64 (N:Int),.slice a7 F.length c7] 24);exact h
    generalize (w7.alloc (.cells #[.int .i64 (N:Int),.int .i64 (N:Int),.slice a7 F.length c7] 24))=W7 at gsz gB gq0 ⊢
    have icF7:=Lib.hid (icF.out.mono gB)
    have HB7:=Lib.hid (keep_trans (keep_trans hbr hb7) gB)
    have HGL7:=Lib.hid (HGL.out.below HB7.out)
    have GQ:=Lib.hid gq0
    clear gsz gq0 gB hb7 hbr icF
    have HFZ:Hid (foundTo (redC N) F 0=false):=rfl
    have hgl7:=HGL7.out
    go_wp2_with fail
    go_loopw [15,17,108] (fun fv _ iv wr=>∃j:Nat,j≤(redC N).length∧iv = .int .i64 (j:Int)∧fv = .bool (foundTo (redC N) F j)∧Hid (Below W7.heap.size W7 wr)) (fun _ _ iv _=>(redC N).length - (intOf iv).toNat)
    case atStart=>exact ⟨0,by omega,rfl,rfl,Below.refl _ _⟩
    case round =>
     obtain ⟨j,hj,rfl,rfl,hbr0⟩:=hrel
     clear hgl7
     have hbr:=hbr0.out
     by_cases hlt:j<(redC N).length
     ·obtain ⟨bL,oL,aX,cX,rfl,hbL,t0,t1,t2,icX,_⟩:=HGL7.out.2 j hlt
      have hki:(j:Int)<((redC N).length:Int):=Int.ofNat_lt.2 hlt
      have icX1:=Lib.hid (icX.mono hbr)
      have hbw:=Nat.lt_of_lt_of_le hbL hbr.size
      have t0:=(hbr.cell (p:=⟨bL,oL+3*j,none⟩) hbL).trans t0
      have t1:=(hbr.cell (p:=⟨bL,oL+(3*j+1),none⟩) hbL).trans t1
      have t2:=(hbr.cell (p:=⟨bL,oL+(3*j+2),none⟩) hbL).trans t2
      have HFS:=Lib.hid (foundTo_succ (redC N) F j)
      obtain ⟨X,hX⟩:∃X,X=(redC N)[j]?.getD []:=⟨_,rfl⟩
      rw[← hX] at icX1 t2 HFS
      rw[Nat.mul_comm 3 j] at t0 t1 t2
      rw[← Nat.add_assoc] at t1 t2
      clear icX hX
      generalize foundTo (redC N) F j=fb at HFS ⊢
      go_upto_region 24 with fail
      have ksz:(wr.alloc (.cells #[.int .i64 (N:Int),.int .i64 (N:Int),.slice aX X.length cX] 24)).heap.size=wr.heap.size+1:=by simp only[World.size_alloc]
      have kB:Below wr.heap.size wr (wr.alloc (.cells #[.int .i64 (N:Int),.int .i64 (N:Int),.slice aX X.length cX] 24)):=(Below.refl _ _).alloc (Nat.le_refl _) _
      have kq0:(wr.alloc (.cells #[.int .i64 (N:Int),.int .i64 (N:Int),.slice aX X.length cX] 24)).heap[wr.heap.size]?=some (.cells #[.int .i64 (N:Int),.int .i64 (N:Int),.slice aX X.length cX] 24 (0,0)):=by have h:=World.alloc_heap_new wr (.cells #[.int .i64 (N:Int),.int .i64 (N:Int),.slice aX X.length cX] 24);exact h
      generalize (wr.alloc (.cells #[.int .i64 (N:Int),.int .i64 (N:Int),.slice aX X.length cX] 24))=W8 at ksz kB kq0 ⊢
      have HSM:=Lib.hid (same_c aX a7 X.length F.length cX c7 X F W8 (icX1.out.mono kB) ((icF7.out.mono hbr).mono kB))
      obtain ⟨x0,x1,x2,xl⟩:=c3_of kq0
      obtain ⟨y0,y1,y2,yl⟩:=c3_of (keepq kB (keepq hbr GQ.out))
      have hB8:=keep_trans hbr kB
      clear ksz kq0 t0 t1 t2 hbw
      cases fb with
      | true =>
       rw[Bool.true_or] at HFS
       go_wp2_with fail
       exact ⟨⟨j+1,by omega,by go_num,by rw[HFS.out],hB8⟩,by simp[intOf];omega⟩
      | false =>
       rw[Bool.false_or] at HFS
       go_wp2_with (first|(go_at_call 12;refine HSM.out.mono ?_;rintro _ w9 ⟨rfl,hb9⟩)|fail)
       exact ⟨⟨j+1,by omega,by go_num,by rw[HFS.out],keep_trans hB8 hb9⟩,by simp[intOf];omega⟩
     ·have e:j=(redC N).length:=by omega
      rw[e,foundTo_all HME.out]
      go_wp2_with (first|(go_at_call 5;refine (HP.out _).mono ?_;rintro _ w9 ⟨rfl,hb9⟩)|fail)
      go_ret
      exact ⟨rfl,keep_trans (keep_trans (keep_trans HW.out HB7.out) hbr) hb9⟩
 ·clear HCR HE
  go_enter Try.func3,Try.ntmps3
  go_upto_region 1 with fail
  have fB:Below w.heap.size w (w.alloc (.cells #[.int .i64 (N:Int),.int .i64 (N:Int),.slice a n c] 24)):=(Below.refl _ _).alloc (Nat.le_refl _) _
  have FQ:Hid ((w.alloc (.cells #[.int .i64 (N:Int),.int .i64 (N:Int),.slice a n c] 24)).heap[w.heap.size]?=some (.cells #[.int .i64 (N:Int),.int .i64 (N:Int),.slice a n c] 24 (0,0))):=World.alloc_heap_new _ _
  generalize (w.alloc (.cells #[.int .i64 (N:Int),.int .i64 (N:Int),.slice a n c] 24))=W0 at fB FQ ⊢
  obtain ⟨x0,x1,x2,xl⟩:=c3_of FQ.out
  go_upto_region 9 with (first|(go_at_call 4;refine (HCH.out _ fB).mono ?_;rintro _ w2 ⟨rfl,hb2⟩;clear x0 x1 x2 xl;have q2:=keepq hb2 FQ.out;obtain ⟨x0,x1,x2,xl⟩:=c3_of q2)|(go_at_call 6;refine (HRF.out _ (keep_trans fB hb2)).mono ?_;rintro _ w3 ⟨rfl,hb3⟩;clear x0 x1 x2 xl;have q3:=keepq hb3 q2;obtain ⟨x0,x1,x2,xl⟩:=c3_of q3)|(go_at_call 7;refine (HAL.out _).mono ?_;rintro _ w4 ⟨aL,cL,rfl,hgl,hb4⟩;clear x0 x1 x2 xl;have q4:=keepq hb4 q3;obtain ⟨x0,x1,x2,xl⟩:=c3_of q4)|(go_at_call 8;refine (HCR.out _ (keep_trans (keep_trans (keep_trans fB hb2) hb3) hb4)).mono ?_;rintro _ w5 ⟨rfl,hb5⟩;clear x0 x1 x2 xl;have q5:=keepq hb5 q4;obtain ⟨x0,x1,x2,xl⟩:=c3_of q5))
  have HW:=Lib.hid (keep_trans (keep_trans (keep_trans fB hb2) hb3) hb4)
  have HGL:=Lib.hid hgl
  have HQ:=Lib.hid q4
  clear hgl q2 q3 q4 hb2 hb3 hb4 fB FQ HRF HAL HCH
  obtain ⟨W,hW⟩:∃W,W=w4:=⟨_,rfl⟩
  rw[← hW] at HW HGL HQ x0 x1 x2 xl ⊢
  clear hW
  have hgl:=HGL.out
  go_wp2_with fail
  go_loopw [8,9,10,11,12,59] (fun _ _ _ _ _ iv wr=>∃k:Nat,k≤(redC N).length∧iv = .int .i64 (k:Int)∧Hid (Below W.heap.size W wr)) (fun _ _ _ _ _ iv _=>(redC N).length - (intOf iv).toNat)
  case atStart=>exact ⟨0,by omega,rfl,Below.refl _ _⟩
  case round =>
   obtain ⟨k,hk,rfl,hbr0⟩:=hrel
   clear hgl x0 x1 x2 xl
   by_cases hlt:k<(redC N).length
   ·have hbr:=hbr0.out
    obtain ⟨bL,oL,aX,cX,rfl,hbL,t0,t1,t2,icX,_⟩:=HGL.out.2 k hlt
    have hki:(k:Int)<((redC N).length:Int):=Int.ofNat_lt.2 hlt
    have hnb:=HNB.out
    have icX1:=Lib.hid (icX.mono hbr)
    have hbw:=Nat.lt_of_lt_of_le hbL hbr.size
    have t0:=(hbr.cell (p:=⟨bL,oL+3*k,none⟩) hbL).trans t0
    have t1:=(hbr.cell (p:=⟨bL,oL+(3*k+1),none⟩) hbL).trans t1
    have t2:=(hbr.cell (p:=⟨bL,oL+(3*k+2),none⟩) hbL).trans t2
    have HXM:Hid ((redC N)[k]?.getD []∈redC N):=by show (redC N)[k]?.getD []∈redC N;rw[List.getElem?_eq_getElem hlt];exact List.getElem_mem _
    obtain ⟨X,hX⟩:∃X,X=(redC N)[k]?.getD []:=⟨_,rfl⟩
    rw[← hX] at HXM icX1 t2
    rw[Nat.mul_comm 3 k] at t0 t1 t2
    rw[← Nat.add_assoc] at t1 t2
    clear icX hX
    have HQr:=Lib.hid (keepq hbr HQ.out)
    go_upto_region 12 with fail
    have gsz:(wr.alloc (.cells #[.int .i64 (N:Int),.int .i64 (N:Int),.slice aX X.length cX] 24)).heap.size=wr.heap.size+1:=by simp only[World.size_alloc]
    have gB:Below wr.heap.size wr (wr.alloc (.cells #[.int .i64 (N:Int),.int .i64 (N:Int),.slice aX X.length cX] 24)):=(Below.refl _ _).alloc (Nat.le_refl _) _
    have gq0:(wr.alloc (.cells #[.int .i64 (N:Int),.int .i64 (N:Int),.slice aX X.length cX] 24)).heap[wr.heap.size]?=some (.cells #[.int .i64 (N:Int),.int .i64 (N:Int),.slice aX X.length cX] 24 (0,0)):=by have h:=World.alloc_heap_new wr (.cells #[.int .i64 (N:Int),.int .i64 (N:Int),.slice aX X.length cX] 24);exact h
    generalize (wr.alloc (.cells #[.int .i64 (N:Int),.int .i64 (N:Int),.slice aX X.length cX] 24))=W6 at gsz gB gq0 ⊢
    have GQ:=Lib.hid gq0
    have icX':=Lib.hid (icX1.out.mono gB)
    have ic':=Lib.hid ((H.out.mono (keep_trans HW.out hbr)).mono gB)
    have HQ6:=keepq gB HQr.out
    obtain ⟨x0,x1,x2,xl⟩:=c3_of HQ6
    obtain ⟨y0,y1,y2,yl⟩:=c3_of gq0
    have hG6:=Lib.hid (keep_trans hbr gB)
    clear gsz gq0 t0 t1 t2 hbw
    cases hbv:(meetR cs X).isNone with
    | true =>
     have HBV:=Lib.hid hbv
     clear hbv
     go_wp2_with (first|(go_at_call 4;refine (HCX.out _ _ _ _ _ HXM.out icX'.out).mono ?_;rintro _ w7 ⟨rfl,hb7⟩;clear x0 x1 x2 xl y0 y1 y2 yl;have q7:=keepq hb7 HQ6;have p7:=keepq hb7 GQ.out;obtain ⟨x0,x1,x2,xl⟩:=c3_of q7;obtain ⟨y0,y1,y2,yl⟩:=c3_of p7)|(go_at_call 9;refine (HFD.out _ _ _ _ _ HXM.out (ic'.out.mono hb7) (icX'.out.mono hb7)).mono ?_;rw[HBV.out];rintro _ w8 ⟨rG,CG,aG,mG,cG,rfl,hb8⟩;have hb8a:=keep_alloc hb8 (.cells #[.int .i64 rG,.int .i64 CG,.slice aG mG cG] 24);clear x0 x1 x2 xl y0 y1 y2 yl;have q8:=keepq hb8a q7;have p8:=keepq hb8a p7;obtain ⟨x0,x1,x2,xl⟩:=c3_of q8;obtain ⟨y0,y1,y2,yl⟩:=c3_of p8)|(go_at_call 10;refine (HOR.out _ _ _ _ _ HXM.out ((ic'.out.mono hb7).mono hb8a) ((icX'.out.mono hb7).mono hb8a)).mono ?_;rw[HBV.out];rintro _ w9 ⟨rfl,hb9⟩)|fail)
     exact ⟨⟨k+1,by omega,by go_num,keep_trans (keep_trans (keep_trans hG6.out hb7) hb8a) hb9⟩,by simp[intOf];omega⟩
    | false =>
     have HBV:=Lib.hid hbv
     clear hbv
     go_wp2_with (first|(go_at_call 4;refine (HCX.out _ _ _ _ _ HXM.out icX'.out).mono ?_;rintro _ w7 ⟨rfl,hb7⟩;clear x0 x1 x2 xl y0 y1 y2 yl;have q7:=keepq hb7 HQ6;have p7:=keepq hb7 GQ.out;obtain ⟨x0,x1,x2,xl⟩:=c3_of q7;obtain ⟨y0,y1,y2,yl⟩:=c3_of p7)|(go_at_call 9;refine (HFD.out _ _ _ _ _ HXM.out (ic'.out.mono hb7) (icX'.out.mono hb7)).mono ?_;rw[HBV.out];rintro _ w8 ⟨rG,CG,aG,mG,cG,rfl,hb8⟩;have hb8a:=keep_alloc hb8 (.cells #[.int .i64 rG,.int .i64 CG,.slice aG mG cG] 24);clear x0 x1 x2 xl y0 y1 y2 yl;have q8:=keepq hb8a q7;have p8:=keepq hb8a p7;obtain ⟨x0,x1,x2,xl⟩:=c3_of q8;obtain ⟨y0,y1,y2,yl⟩:=c3_of p8)|(go_at_call 10;refine (HOR.out _ _ _ _ _ HXM.out ((ic'.out.mono hb7).mono hb8a) ((icX'.out.mono hb7).mono hb8a)).mono ?_;rw[HBV.out];rintro _ w9 ⟨rfl,hb9⟩)|fail)
     exact ⟨⟨k+1,by omega,by go_num,keep_trans (keep_trans (keep_trans hG6.out hb7) hb8a) hb9⟩,by simp[intOf];omega⟩
   ·have e:k=(redC N).length:=by omega
    have hbr:=hbr0.out
    have HQr:=Lib.hid (keepq hbr HQ.out)
    obtain ⟨x0,x1,x2,xl⟩:=c3_of HQr.out
    have hnb:=HNB.out
    clear hk hlt
    go_upto_region 20 with (first|(go_at_call 11;refine (HRD.out _ (keep_trans HW.out hbr)).mono ?_;rintro _ w7 ⟨a7,c7,rfl,hown7,hb7⟩))
    generalize reduL (-1) N cs=F at HME HSQ hown7 ⊢
    have icF:=Lib.hid (IC.own hown7 rfl HSQ.out).1
    clear hown7 x0 x1 x2 xl
    have gsz:(w7.alloc (.cells #[.int .i64 (N:Int),.int .i64 (N:Int),.slice a7 F.length c7] 24)).heap.size=w7.heap.size+1:=by simp only[World.size_alloc]
    have gB:Below w7.heap.size w7 (w7.alloc (.cells #[.int .i64 (N:Int),.int .i64 (N:Int),.slice a7 F.length c7] 24)):=(Below.refl _ _).alloc (Nat.le_refl _) _
    have gq0:(w7.alloc (.cells #[.int .i64 (N:Int),.int .i64 (N:Int),.slice a7 F.length c7] 24)).heap[w7.heap.size]?=some (.cells #[.int .i64 (N:Int),.int .i64 (N:Int),.slice a7 F.length c7] 24 (0,0)):=by have h:=World.alloc_heap_new w7 (.cells #[.int .i64 (N:Int),.int .i64 (N:Int),.slice a7 F.length c7] 24);exact h
    generalize (w7.alloc (.cells #[.int .i64 (N:Int),.int .i64 (N:Int),.slice a7 F.length c7] 24))=W7 at gsz gB gq0 ⊢
    have icF7:=Lib.hid (icF.out.mono gB)
    have HB7:=Lib.hid (keep_trans (keep_trans hbr hb7) gB)
    have HGL7:=Lib.hid (HGL.out.below HB7.out)
    have GQ:=Lib.hid gq0
    clear gsz gq0 gB hb7 hbr icF
    have HFZ:Hid (foundTo (redC N) F 0=false):=rfl
    have hgl7:=HGL7.out
    go_wp2_with fail
    go_loopw [15,17,108] (fun fv _ iv wr=>∃j:Nat,j≤(redC N).length∧iv = .int .i64 (j:Int)∧fv = .bool (foundTo (redC N) F j)∧Hid (Below W7.heap.size W7 wr)) (fun _ _ iv _=>(redC N).length - (intOf iv).toNat)
    case atStart=>exact ⟨0,by omega,rfl,rfl,Below.refl _ _⟩
    case round =>
     obtain ⟨j,hj,rfl,rfl,hbr0⟩:=hrel
     clear hgl7
     have hbr:=hbr0.out
     by_cases hlt:j<(redC N).length
     ·obtain ⟨bL,oL,aX,cX,rfl,hbL,t0,t1,t2,icX,_⟩:=HGL7.out.2 j hlt
      have hki:(j:Int)<((redC N).length:Int):=Int.ofNat_lt.2 hlt
      have icX1:=Lib.hid (icX.mono hbr)
      have hbw:=Nat.lt_of_lt_of_le hbL hbr.size
      have t0:=(hbr.cell (p:=⟨bL,oL+3*j,none⟩) hbL).trans t0
      have t1:=(hbr.cell (p:=⟨bL,oL+(3*j+1),none⟩) hbL).trans t1
      have t2:=(hbr.cell (p:=⟨bL,oL+(3*j+2),none⟩) hbL).trans t2
      have HFS:=Lib.hid (foundTo_succ (redC N) F j)
      obtain ⟨X,hX⟩:∃X,X=(redC N)[j]?.getD []:=⟨_,rfl⟩
      rw[← hX] at icX1 t2 HFS
      rw[Nat.mul_comm 3 j] at t0 t1 t2
      rw[← Nat.add_assoc] at t1 t2
      clear icX hX
      generalize foundTo (redC N) F j=fb at HFS ⊢
      go_upto_region 24 with fail
      have ksz:(wr.alloc (.cells #[.int .i64 (N:Int),.int .i64 (N:Int),.slice aX X.length cX] 24)).heap.size=wr.heap.size+1:=by simp only[World.size_alloc]
      have kB:Below wr.heap.size wr (wr.alloc (.cells #[.int .i64 (N:Int),.int .i64 (N:Int),.slice aX X.length cX] 24)):=(Below.refl _ _).alloc (Nat.le_refl _) _
      have kq0:(wr.alloc (.cells #[.int .i64 (N:Int),.int .i64 (N:Int),.slice aX X.length cX] 24)).heap[wr.heap.size]?=some (.cells #[.int .i64 (N:Int),.int .i64 (N:Int),.slice aX X.length cX] 24 (0,0)):=by have h:=World.alloc_heap_new wr (.cells #[.int .i64 (N:Int),.int .i64 (N:Int),.slice aX X.length cX] 24);exact h
      generalize (wr.alloc (.cells #[.int .i64 (N:Int),.int .i64 (N:Int),.slice aX X.length cX] 24))=W8 at ksz kB kq0 ⊢
      have HSM:=Lib.hid (same_c aX a7 X.length F.length cX c7 X F W8 (icX1.out.mono kB) ((icF7.out.mono hbr).mono kB))
      obtain ⟨x0,x1,x2,xl⟩:=c3_of kq0
      obtain ⟨y0,y1,y2,yl⟩:=c3_of (keepq kB (keepq hbr GQ.out))
      have hB8:=keep_trans hbr kB
      clear ksz kq0 t0 t1 t2 hbw
      cases fb with
      | true =>
       rw[Bool.true_or] at HFS
       go_wp2_with fail
       exact ⟨⟨j+1,by omega,by go_num,by rw[HFS.out],hB8⟩,by simp[intOf];omega⟩
      | false =>
       rw[Bool.false_or] at HFS
       go_wp2_with (first|(go_at_call 12;refine HSM.out.mono ?_;rintro _ w9 ⟨rfl,hb9⟩)|fail)
       exact ⟨⟨j+1,by omega,by go_num,by rw[HFS.out],keep_trans hB8 hb9⟩,by simp[intOf];omega⟩
     ·have e:j=(redC N).length:=by omega
      rw[e,foundTo_all HME.out]
      go_wp2_with (first|(go_at_call 5;refine (HP.out _).mono ?_;rintro _ w9 ⟨rfl,hb9⟩)|fail)
      go_ret
      exact ⟨rfl,keep_trans (keep_trans (keep_trans HW.out HB7.out) hbr) hb9⟩
theorem topred_c (r C:Int) (a:Option Addr) (n c:Nat) (cs:List Int) (w:World) (h:IC w a n cs) (hcap:n≤c) :
  Calls Try.prog 3 #[.agg #[.int .i64 r,.int .i64 C,.slice a n c]] w fun e w'=>e = .returned (.bool true)∧Below w.heap.size w w':=by
 have HP:=Lib.hid (fun W=>pairs_c W)
 have hsm:=h.small
 by_cases hbig:16<n
 ·have hd:decide ((16:Int)<(n:Int))=true:=decide_eq_true (by omega)
  clear h hcap
  go_enter Try.func3,Try.ntmps3
  go_upto_region 1 with fail
  have fB:Below w.heap.size w (w.alloc (.cells #[.int .i64 r,.int .i64 C,.slice a n c] 24)):=(Below.refl _ _).alloc (Nat.le_refl _) _
  have FQ:Hid ((w.alloc (.cells #[.int .i64 r,.int .i64 C,.slice a n c] 24)).heap[w.heap.size]?=some (.cells #[.int .i64 r,.int .i64 C,.slice a n c] 24 (0,0))):=World.alloc_heap_new _ _
  generalize (w.alloc (.cells #[.int .i64 r,.int .i64 C,.slice a n c] 24))=W0 at fB FQ ⊢
  obtain ⟨x0,x1,x2,xl⟩:=c3_of FQ.out
  go_wp2_with (first|(go_at_call 5;refine (HP.out _).mono ?_;rintro _ w1 ⟨rfl,hb1⟩)|fail)
  go_ret
  exact ⟨rfl,keep_trans fB hb1⟩
 ·have hd:decide ((16:Int)<(n:Int))=false:=decide_eq_false (by omega)
  have HCH:=Lib.hid (fun W (hb:Below w.heap.size w W)=>rcheck_c r C a n c cs W (h.mono hb))
  by_cases h0:sqE 0 r C cs=0
  ·obtain ⟨N,rfl,rfl,L⟩:=sqE_ok h0
   have e1:=L.len
   have e2:=h.len
   have e3:N≤4:=Nat.not_lt.1 fun h4=>by have:=Nat.mul_le_mul (show 5≤N from h4) (show 5≤N from h4);omega
   exact topmain_c N a n c cs w h hcap L e3
  ·have h0':(sqE 0 r C cs != 0)=true:=by simpa using h0
   generalize sqE 0 r C cs=er at HCH h0'
   clear h hcap h0
   go_enter Try.func3,Try.ntmps3
   go_upto_region 1 with fail
   have fB:Below w.heap.size w (w.alloc (.cells #[.int .i64 r,.int .i64 C,.slice a n c] 24)):=(Below.refl _ _).alloc (Nat.le_refl _) _
   have FQ:Hid ((w.alloc (.cells #[.int .i64 r,.int .i64 C,.slice a n c] 24)).heap[w.heap.size]?=some (.cells #[.int .i64 r,.int .i64 C,.slice a n c] 24 (0,0))):=World.alloc_heap_new _ _
   generalize (w.alloc (.cells #[.int .i64 r,.int .i64 C,.slice a n c] 24))=W0 at fB FQ ⊢
   obtain ⟨x0,x1,x2,xl⟩:=c3_of FQ.out
   go_wp2_with (first|(go_at_call 4;refine (HCH.out _ fB).mono ?_;rintro _ w2 ⟨rfl,hb2⟩)|(go_at_call 5;refine (HP.out _).mono ?_;rintro _ w1 ⟨rfl,hb1⟩)|fail)
   go_ret
   exact ⟨rfl,keep_trans (keep_trans fB hb2) hb1⟩
end
section
open Go Go.RowKit Go.ChangeShapes Go.WideShapes
theorem O5.cellsG:Try.prog.cellsOf 24=3:=by kernel_rfl
section
variable {H:Type} {enc:TypeId × Value→H} {w:World} {held:Bool}
theorem open_grid {base:Nat} {v:Value} {d:DataW H} {p:List MemPlace} (hv:Value.okWide Try.prog w .any base 24 v) (h:DataW.Trod enc Try.prog w 0 (fun _=>true) held 24 v d p) (hz:∀n∈d.weights Try.prog 24,n≤reachBytes) :
  ∃(r C:Int) (a:Option Addr) (n c:Nat) (P:List Int),v = .agg #[.int .i64 r,.int .i64 C,.slice a n c]∧n≤c∧IC w a n P:=by
 obtain ⟨cs,rfl,hsz⟩:=okWide_struct Try.underlying24 hv
 obtain ⟨c0,c1,c2,rfl⟩:=Go.Joins.array3 (hsz.trans O5.cellsG)
 obtain ⟨fuel,hf⟩:=h
 obtain ⟨y0,y1,y2,m,hx,_,h0,h1,h2⟩:=Go.Deep.trod_struct3 Try.underlying24 hf
 have h0':DataW.trod enc Try.prog w 0 (fun _=>true) held m 3 [c0]=some y0:=by simpa [Value.cells,O1.cells3] using h0
 have h1':DataW.trod enc Try.prog w 0 (fun _=>true) held m 3 [c1]=some y1:=by simpa [Value.cells,O1.cells3] using h1
 have h2':DataW.trod enc Try.prog w 0 (fun _=>true) held m 22 [c2]=some y2:=by simpa [Value.cells,O1.cells3,O1.cells25] using h2
 simp only[Prod.mk.injEq] at hx
 obtain ⟨rfl,rfl⟩:=hx
 have hwz:∀n,n∈y2.1.weights Try.prog 22→n≤reachBytes:=by
  intro n hn
  refine hz n ?_
  simp only[DataW.weights,Try.underlying24,List.map_cons,List.map_nil,DataW.weightsEach,List.mem_append]
  exact .inr (.inr (.inl hn))
 obtain ⟨r,e0,_,_⟩:=DataW.trod_int Try.underlying3 h0'
 obtain ⟨C,e1,_,_⟩:=DataW.trod_int Try.underlying3 h1'
 obtain ⟨a,n,c,P,rfl,hc,hP⟩:=O1.ints h2' hwz
 simp only[List.cons.injEq,and_true] at e0 e1
 exact ⟨r,C,a,n,c,P,by rw[e0,e1],hc,hP⟩
end
end
end Go.Proofs.Ytceombamoikhdaa
