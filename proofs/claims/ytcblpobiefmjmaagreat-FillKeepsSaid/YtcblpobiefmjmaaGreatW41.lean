/- Texts Q7 to Q7 of this proof, in one file. -/
import Derived.Test.YtcblpobiefmjmaaGreatW20
import Derived.Test.YtcblpobiefmjmaaGreatW28
import Derived.Test.YtcblpobiefmjmaaGreatW31
import Derived.Test.YtcblpobiefmjmaaGreatW32
import Derived.Test.YtcblpobiefmjmaaGreatW40
namespace Go.Proofs.YtcblpobiefmjmaaGreat
set_option maxRecDepth 100000
set_option maxHeartbeats 16000000
section
open Go Go.RowKit
attribute [local go_sem] over_cell
attribute [local go_sem] Oper.semAt_some
theorem k4 {w:World} {b:Nat} {v0 v1 v2 v3:Value} {T:TypeId} (h:w.heap[b]?=some (.cells #[v0,v1,v2,v3] T (0,0))):w.cell? ⟨b,0,none⟩=some v0∧w.cell? ⟨b,1,none⟩=some v1∧w.cell? ⟨b,2,none⟩=some v2∧w.cell? ⟨b,3,none⟩=some v3∧b<w.heap.size:=⟨q_cell h 0,q_cell h 1,q_cell h 2,q_cell h 3,q_lt h⟩
def amid (l:List Int) (x:Int) (q:Nat):Bool:=(l.take q).any fun y=>y==x
theorem amid_succ {l:List Int} {x:Int} {q:Nat} (h:q<l.length):amid l x (q+1)=(amid l x q||(l[q]?.getD 0==x)):=by
 unfold amid
 rw[take_snoc l 0 q h,List.any_append]
 simp
theorem amid_all {l:List Int} {x:Int} (h:x∈l):amid l x l.length=true:=by
 unfold amid
 rw[List.take_length,List.any_eq_true]
 exact ⟨x,h,by simp⟩
structure KeepsF (n:Nat) (CL:List (List Int)) (RL:List Rem) (f:List Int):Prop where
 len:f.length=n
 inC:∀i,i<n→f[i]?.getD 0∈CL[i]?.getD []
 rem:∀k,k<RL.length→(RL[k]?.getD default).2.1<n∧f[(RL[k]?.getD default).2.1]?.getD 0≠((RL[k]?.getD default).2.2.1:Int)
theorem iter_cell {cells:Int} {ls:List (List Int)} {sum:Int} {g:List Int} (G:GoodTask cells ls sum g) (M:Nat):∀(k:Nat) (Ms:List Nat),Ms.length=g.length→∀r,r∈(iterR ls sum M k Ms).1→r.2.1<g.length
 | 0,Ms,_,r,hr=>absurd hr (by simp[iterR])
 | k+1,Ms,hlen,r,hr=>by
  simp only[iterR] at hr
  have hlr:∀l,l∈ls→∀x,x∈l→0≤x∧x<(Ms.length:Int):=fun l hl x hx=>by
   have:=(G.lineLen hl).2 x hx
   have:=G.len
   omega
  cases hs:stepR ls sum M Ms with
  | none=>rw[hs] at hr;simp at hr
  | some r0 =>
   rw[hs] at hr
   simp only at hr
   rcases List.mem_cons.1 hr with e|e
   ·rw[e];have:=(stepR_ok hlr hs).1;omega
   ·exact iter_cell G M k _ (by rw[dropR_len];exact hlen) r e
theorem keepsF {cells:Int} {ls:List (List Int)} {sum:Int} {g f:List Int} (G:GoodTask cells ls sum g) (hf:f∈solsL ls sum g []) (k:Nat):KeepsF g.length (candL (allM g.length) (iterR ls sum (allM g.length) k (begL g)).2) (iterR ls sum (allM g.length) k (begL g)).1 f:=by
 have hs:SolF ls sum g f:=(mem_sols G).1 hf
 have hbl:(begL g).length=g.length:=by simp[begL]
 have hg:=G.glen
 have hk:=keep_iter G hs (allM g.length) k (begL g) hbl (begL_holds hg (fun i hi=>(G.num i hi).1) hs) (by rw[hbl];exact begL_bound (fun i hi=>by have:=(G.num i hi).2;have:=G.len;omega))
 have hml:(iterR ls sum (allM g.length) k (begL g)).2.length=g.length:=by rw[iterR_len,hbl]
 have hcell:=iter_cell G (allM g.length) k (begL g) hbl
 rw[hbl] at hk
 have hc:=keep_contra hg hml hs hk.1 (by rw[hml];exact hk.2.1)
 generalize iterR ls sum (allM g.length) k (begL g)=R at *
 refine ⟨hs.len,fun i hi=>?_,fun q hq=>?_⟩
 ·unfold candL
  rw[if_neg (by rw[hc];decide),List.getElem?_map,List.getElem?_eq_getElem (by omega)]
  show _∈elemsM _
  have h1:=hk.1.2 i (by rw[hs.len];exact hi)
  obtain ⟨h2,h3,h4,h5⟩:=h1
  rw[List.getElem?_eq_getElem (show i<R.2.length by omega),Option.getD_some] at h5
  exact elemsM_mem.2 ⟨h2,by omega,h5⟩
 ·have hm:R.1[q]?.getD default∈R.1:=by rw[List.getElem?_eq_getElem hq];exact List.getElem_mem hq
  exact ⟨hcell _ hm,hk.2.2 _ hm⟩
theorem fkeeps_c (a:Option Addr) (n c:Nat) (ls:List (List Int)) (cells sum:Int) (a':Option Addr) (n' c':Nat) (g:List Int) (w:World) (h:RC w a n ls) (hcap:n≤c) (h':IC w a' n' g) (hcap':n'≤c') :
  Calls Tryz.prog 7 #[.agg #[.int .i64 cells,.slice a n c,.int .i64 sum,.slice a' n' c']] w fun e w'=>e = .returned (.bool true)∧Below w.heap.size w w':=by
 have HA:=Lib.hid awake_c
 have HFW:=Lib.hid (fun w1 (hb:Below w.heap.size w w1)=>few6_c a n c ls cells sum a' n' c' g 9 7 w1 (h.mono hb) hcap (h'.mono hb) hcap')
 have HCA:=Lib.hid (fun w1 (hb:Below w.heap.size w w1)=>cand_c a n c ls cells sum a' n' c' g w1 (h.mono hb) hcap (h'.mono hb) hcap')
 have HRE:=Lib.hid (fun w1 (hb:Below w.heap.size w w1)=>reasons_c a n c ls cells sum a' n' c' g w1 (h.mono hb) hcap (h'.mono hb) hcap')
 have HSO:=Lib.hid (fun (G:GoodTask cells ls sum g) (h7:(openL g).length≤7) w1 (hb:Below w.heap.size w w1)=>rsols_c G a n c a' n' c' 6000 w1 (h.mono hb) (h'.mono hb) h7 (by decide) (by decide))
 have HFG:Hid (few6B 9 7 cells sum ls g=true→GoodTask cells ls sum g∧(openL g).length≤7∧taskErr cells ls sum g=0∧cells=(n':Int)∧n'≤256∧solsR ls sum g 6000=solsL ls sum g []∧(solsL ls sum g []).length≤5040∧∀k l,l∈solsL ls sum g []→KeepsF n' (candL (allM n') (iterR ls sum (allM n') k (begL g)).2) (iterR ls sum (allM n') k (begL g)).1 l):=fun e=>by
  have h1:=few_good e
  have G:=h1.1
  have h7:(openL g).length≤7:=by have:=h1.2;omega
  have h2:=sols_count G h7
  have h3:=solsR_eq G 6000
  have h4:=G.len
  have h5:=h'.len
  have h6:=G.cells2
  refine ⟨G,h7,taskErr_good G (few_sys e),by omega,by omega,by rw[show (6000:Int)=((6000:Nat):Int) from rfl,h3,List.take_of_length_le (by omega)],h2,fun k l hl=>?_⟩
  have h8:=keepsF G hl k
  rw[h5] at h8
  exact h8
 have HBL:Hid ((begL g).length=n'):=by unfold Hid begL;rw[List.length_map,h'.len]
 clear h h'
 generalize few6B 9 7 cells sum ls g=fb at HFW HFG
 go_enter Tryz.func7,Tryz.ntmps7
 go_upto_region 2 with fail
 have fsz:((w.alloc (.cells #[.int .i64 cells,.slice a n c,.int .i64 sum,.slice a' n' c'] 27)).alloc (.cells #[.int .i64 cells,.slice a n c,.int .i64 sum,.slice a' n' c'] 28)).heap.size=w.heap.size+2:=by simp only[World.size_alloc] <;> omega
 have fB:Below w.heap.size w ((w.alloc (.cells #[.int .i64 cells,.slice a n c,.int .i64 sum,.slice a' n' c'] 27)).alloc (.cells #[.int .i64 cells,.slice a n c,.int .i64 sum,.slice a' n' c'] 28)):=((Below.refl _ _).alloc (Nat.le_refl _) _).alloc (by simp only[World.size_alloc];omega) _
 have fq0:((w.alloc (.cells #[.int .i64 cells,.slice a n c,.int .i64 sum,.slice a' n' c'] 27)).alloc (.cells #[.int .i64 cells,.slice a n c,.int .i64 sum,.slice a' n' c'] 28)).heap[w.heap.size]?=some (.cells #[.int .i64 cells,.slice a n c,.int .i64 sum,.slice a' n' c'] 27 (0,0)):=by have h:=World.alloc_heap_new w (.cells #[.int .i64 cells,.slice a n c,.int .i64 sum,.slice a' n' c'] 27);exact (Below.heap_alloc _ _ _ (by simp only[World.size_alloc];omega)).trans (h)
 have fq1:((w.alloc (.cells #[.int .i64 cells,.slice a n c,.int .i64 sum,.slice a' n' c'] 27)).alloc (.cells #[.int .i64 cells,.slice a n c,.int .i64 sum,.slice a' n' c'] 28)).heap[w.heap.size+1]?=some (.cells #[.int .i64 cells,.slice a n c,.int .i64 sum,.slice a' n' c'] 28 (0,0)):=by have h:=World.alloc_heap_new (w.alloc (.cells #[.int .i64 cells,.slice a n c,.int .i64 sum,.slice a' n' c'] 27)) (.cells #[.int .i64 cells,.slice a n c,.int .i64 sum,.slice a' n' c'] 28);simp only[World.size_alloc] at h;exact h
 generalize ((w.alloc (.cells #[.int .i64 cells,.slice a n c,.int .i64 sum,.slice a' n' c'] 27)).alloc (.cells #[.int .i64 cells,.slice a n c,.int .i64 sum,.slice a' n' c'] 28))=W0 at fsz fB fq0 fq1 ⊢
 have HY:=Lib.hid (fun W (hb:Below W0.heap.size W0 W)=>k4 (keepq hb fq0))
 have HX:=Lib.hid (fun W (hb:Below W0.heap.size W0 W)=>k4 (keepq hb fq1))
 have hcur:Below W0.heap.size W0 W0:=Below.refl _ _
 obtain ⟨y0,y1,y2,y3,yl⟩:=HY.out _ hcur
 obtain ⟨x0,x1,x2,x3,xl⟩:=HX.out _ hcur
 clear fq0 fq1 fsz
 cases fb with
 | false =>
  go_wp2_with (first|(go_at_call 32;refine (HFW.out _ (keep_trans fB hcur)).mono ?_;rintro _ w1 ⟨rfl,hb1⟩;replace hcur:=keep_trans hcur hb1;clear y0 y1 y2 y3 yl;obtain ⟨y0,y1,y2,y3,yl⟩:=HY.out _ hcur;clear x0 x1 x2 x3 xl;obtain ⟨x0,x1,x2,x3,xl⟩:=HX.out _ hcur)|(go_at_call 17;refine (HA.out _).mono ?_;rintro _ w1 ⟨rfl,hb1⟩;replace hcur:=keep_trans hcur hb1))
  go_ret
  exact ⟨rfl,keep_trans fB hcur⟩
 | true =>
  obtain ⟨G,h7,hte,hcl,hn',hs1,hs2,hKF⟩:=HFG.out rfl
  have HSO:=Lib.hid (HSO.out G h7)
  rw[hs1] at HSO
  rw[hte] at HCA HRE
  have HS2:=Lib.hid hs2
  have HKF:=Lib.hid hKF
  have HCE:=Lib.hid hcl
  clear HFG G h7 hte hs1 hs2 hKF hcl
  go_wp2_with (first|(go_at_call 32;refine (HFW.out _ (keep_trans fB hcur)).mono ?_;rintro _ w1 ⟨rfl,hb1⟩;replace hcur:=keep_trans hcur hb1;clear y0 y1 y2 y3 yl;obtain ⟨y0,y1,y2,y3,yl⟩:=HY.out _ hcur;clear x0 x1 x2 x3 xl;obtain ⟨x0,x1,x2,x3,xl⟩:=HX.out _ hcur))
  refine (HCA.out _ (keep_trans fB hcur)).mono ?_
  rintro _ w1 ⟨ar,nr,cr,rfl,_,hC,hcr,hb1⟩
  obtain ⟨k1,hend1,hRC⟩:=hC trivial
  have HC:=Lib.hid hRC
  have HCL:=Lib.hid hRC.len
  replace hcur:=keep_trans hcur hb1
  clear hC hRC
  clear y0 y1 y2 y3 yl
  obtain ⟨y0,y1,y2,y3,yl⟩:=HY.out _ hcur
  clear x0 x1 x2 x3 xl
  obtain ⟨x0,x1,x2,x3,xl⟩:=HX.out _ hcur
  go_wp2_with fail
  refine (HRE.out _ (keep_trans fB hcur)).mono ?_
  rintro _ w1 ⟨ar2,nr2,cr2,rfl,_,hR,hcr2,hb1⟩
  obtain ⟨k2,hend2,hRM⟩:=hR trivial
  rw[iterR_uniq hend2 hend1] at hRM
  replace HC:=Lib.hid (HC.out.mono hb1)
  have HR:=Lib.hid hRM
  replace hcur:=keep_trans hcur hb1
  clear hR hRM hend1 hend2 HRE HCA
  have HKF:=Lib.hid (HKF.out k1)
  have hnr:nr=n':=by
   have h1:=HCL.out
   rw[← h1]
   unfold candL
   split <;> rw[List.length_map,iterR_len,HBL.out]
  subst hnr
  have hcl:=HCE.out
  clear HCE
  subst hcl
  clear HCL HBL
  generalize candL (allM nr) (iterR ls sum (allM nr) k1 (begL g)).2=CL at HC HKF
  generalize (iterR ls sum (allM nr) k1 (begL g)).1=RL at HR HKF
  clear y0 y1 y2 y3 yl
  obtain ⟨y0,y1,y2,y3,yl⟩:=HY.out _ hcur
  clear x0 x1 x2 x3 xl
  obtain ⟨x0,x1,x2,x3,xl⟩:=HX.out _ hcur
  go_wp2_with fail
  refine (HSO.out _ (keep_trans fB hcur)).mono ?_
  rintro _ w1 ⟨⟨vf,pre,rfl,hr,hall,hpl⟩,hb1⟩
  obtain ⟨a9,cs,e,hrc,hcs⟩:=hr.rc (by omega) (hr.short hall (fun l hl=>by have h1:=(HKF.out l hl).len;omega))
  subst e
  have hpn:=congrArg List.length hall
  rw[List.length_map] at hpn
  rw[hall] at hrc
  replace hcur:=keep_trans hcur hb1
  replace HC:=Lib.hid (HC.out.mono hb1)
  replace HR:=Lib.hid (HR.out.mono hb1)
  have HRC:=Lib.hid hrc
  clear hr hall hrc HSO hb1
  generalize solsL ls sum g []=SL at HRC HKF hpn HS2
  have hNb:pre.length≤5040:=by have:=HS2.out;omega
  generalize pre.length=N at hNb HRC hcs hpl hpn ⊢
  clear y0 y1 y2 y3 yl x0 x1 x2 x3 xl HFW HX HY HS2 hpl
  have hc1:=hcur
  clear hcur
  have HCR:=Lib.hid (keep_trans fB hc1)
  have HRN:=Lib.hid HR.out.1
  go_wp2_with fail
  go_loopw [51] (fun i wr=>∃k:Nat,k≤N∧i = .int .i64 k∧Below w1.heap.size w1 wr) (fun i _=>N - (intOf i).toNat)
  case atStart=>exact ⟨0,by omega,rfl,Below.refl _ _⟩
  case round =>
   obtain ⟨k,hk,rfl,hbr⟩:=hrel
   by_cases hlt:k<N
   ·obtain ⟨b9,o9,af,nf,cf,rfl,l9,c9,hif,hnf⟩:=(HRC.out.mono hbr).2 k hlt
    have hki:(k:Int)<(N:Int):=by omega
    have HF:Hid (KeepsF nr CL RL (SL[k]?.getD [])):=HKF.out _ (by rw[List.getElem?_eq_getElem (by omega)];exact List.getElem_mem _)
    generalize SL[k]?.getD []=f at hif HF
    have hfl:nf=nr:=by have h1:=hif.len;have h2:=HF.out.len;omega
    subst hfl
    have HIF:=Lib.hid hif
    clear hif
    go_wp2_with fail
    clear c9
    go_loopw [57] (fun i wi=>∃j:Nat,j≤nf∧i = .int .i64 j∧Below wr.heap.size wr wi) (fun i _=>nf - (intOf i).toNat)
    case atStart=>exact ⟨0,by omega,rfl,Below.refl _ _⟩
    case round =>
     obtain ⟨j,hj,rfl,hbi⟩:=hrel
     by_cases hjl:j<nf
     ·have hbi2:=hbr.trans (hbi.mono hbr.size)
      obtain ⟨b8,o8,rfl,l8,c8⟩:=(HIF.out.mono hbi).2 j hjl
      obtain ⟨b7,o7,ac,nc,cc,rfl,l7,c7,hic,hnc⟩:=(HC.out.mono hbi2).2 j hjl
      have HIN:=Lib.hid (HF.out.inC j hjl)
      generalize f[j]?.getD 0=x at c8 HIN
      generalize CL[j]?.getD []=C at hic HIN
      have hji:(j:Int)<(nf:Int):=by omega
      have hj0:(0:Int)≤(j:Int):=by omega
      have hncs:=hic.small
      have HIC:=Lib.hid hic
      have HIL:=Lib.hid hic.len
      clear hic
      go_wp2_with fail
      clear c8 c7
      go_loopw [13,67] (fun v i wq=>∃q:Nat,q≤nc∧i = .int .i64 q∧v = .bool (amid C x q)∧Below wr.heap.size wr wq) (fun _ i _=>nc - (intOf i).toNat)
      case atStart=>exact ⟨0,by omega,rfl,rfl,Below.refl _ _⟩
      case round =>
       obtain ⟨q,hq,rfl,rfl,hbq⟩:=hrel
       by_cases hql:q<nc
       ·obtain ⟨b6,o6,rfl,l6,c6⟩:=(HIC.out.mono hbq).2 q hql
        have HAM:=Lib.hid (amid_succ (x:=x) (show q<C.length by have:=HIL.out;omega))
        have hqi:(q:Int)<(nc:Int):=by omega
        cases hv:amid C x q with
        | true =>
         rw[hv,Bool.true_or] at HAM
         clear hv
         go_wp2_with fail
         go_roundw
         case rel=>exact ⟨q+1,by omega,by go_num,by rw[HAM.out],hbq⟩
         case measure=>simp[intOf];omega
        | false =>
         rw[hv,Bool.false_or] at HAM
         clear hv
         go_wp2_with fail
         go_roundw
         case rel=>exact ⟨q+1,by omega,by go_num,by rw[HAM.out],hbq⟩
         case measure=>simp[intOf];omega
       ·have e:q=nc:=by omega
        have hT:amid C x q=true:=by rw[e,← HIL.out];exact amid_all HIN.out
        rw[hT]
        clear hT
        go_wp2_with fail
        go_roundw
        case rel=>exact ⟨j+1,by omega,by go_num,hbi.trans (hbq.mono hbi.size)⟩
        case measure=>simp[intOf];omega
     ·have hbi2:=hbr.trans (hbi.mono hbr.size)
      have HIF2:=Lib.hid (HIF.out.mono hbi)
      have e:j=nf:=by omega
      go_wp2_with fail
      go_loopw [83] (fun i wi=>∃j:Nat,j≤nr2∧i = .int .i64 j∧Below wr.heap.size wr wi) (fun i _=>nr2 - (intOf i).toNat)
      case atStart=>exact ⟨0,by omega,rfl,Below.refl _ _⟩
      case round =>
       obtain ⟨q,hq,rfl,hbq⟩:=hrel
       have hbq2:=hbi2.trans (hbq.mono hbi2.size)
       by_cases hql:q<nr2
       ·obtain ⟨b5,o5,rfl,l5,c5⟩:=(HR.out.mono hbq2).2 q hql
        have HM:=Lib.hid (HF.out.rem q (by have:=HRN.out.1;omega))
        obtain ⟨⟨ru,rc,rn,rl⟩,hrr⟩:∃r,RL[q]?.getD default=r:=⟨_,rfl⟩
        rw[hrr] at c5 HM
        clear hrr
        have d0:wr.cell? ⟨b5,o5+q*4,none⟩=some (ruleS ru):=c5 0 _ rfl
        have d1:wr.cell? ⟨b5,o5+q*4+1,none⟩=some (.int .i64 rc):=c5 1 _ rfl
        have d2:wr.cell? ⟨b5,o5+q*4+2,none⟩=some (.int .i64 rn):=c5 2 _ rfl
        have d3:wr.cell? ⟨b5,o5+q*4+3,none⟩=some (.int .i64 rl):=c5 3 _ rfl
        obtain ⟨rs,hrs⟩:∃S,ruleS ru = .string S:=by unfold ruleS;split <;> exact ⟨_,rfl⟩
        rw[hrs] at d0
        clear hrs
        have hrcl:rc<nf:=HM.out.1
        have hqi:(q:Int)<(nr2:Int):=by omega
        have hr65:nr2≤65536:=HRN.out.2
        obtain ⟨b4,o4,rfl,l4,c4⟩:=(HIF2.out.mono hbq).2 rc hrcl
        have HNE:=Lib.hid HM.out.2
        dsimp only at HNE c4
        generalize f[rc]?.getD 0=x at c4 HNE
        have hxe:(x==(rn:Int))=false:=by simpa using HNE.out
        have hlo:decide ((rc:Int)<0)=false:=decide_eq_false (by omega)
        have hhi:decide ((nf:Int)≤(rc:Int))=false:=decide_eq_false (by omega)
        have hrci:(rc:Int)<(nf:Int):=by omega
        have hhin:decide (nf≤rc)=false:=decide_eq_false (by omega)
        have hnfs:nf≤256:=hn'
        clear c5 HM HNE
        go_wp2_with fail
        have psz:(wr.alloc (.cells #[.string rs,.int .i64 rc,.int .i64 rn,.int .i64 rl] 56)).heap.size=wr.heap.size+1:=by simp only[World.size_alloc]
        have pB:Below wr.heap.size wr (wr.alloc (.cells #[.string rs,.int .i64 rc,.int .i64 rn,.int .i64 rl] 56)):=(Below.refl _ _).alloc (Nat.le_refl _) _
        have pq0:(wr.alloc (.cells #[.string rs,.int .i64 rc,.int .i64 rn,.int .i64 rl] 56)).heap[wr.heap.size]?=some (.cells #[.string rs,.int .i64 rc,.int .i64 rn,.int .i64 rl] 56 (0,0)):=by have h:=World.alloc_heap_new wr (.cells #[.string rs,.int .i64 rc,.int .i64 rn,.int .i64 rl] 56);exact h
        generalize (wr.alloc (.cells #[.string rs,.int .i64 rc,.int .i64 rn,.int .i64 rl] 56))=W1 at psz pB pq0 ⊢
        have r0:W1.cell? ⟨wr.heap.size,0,none⟩=some (.string rs):=q_cell pq0 0
        have r1:W1.cell? ⟨wr.heap.size,1,none⟩=some (.int .i64 rc):=q_cell pq0 1
        have r2:W1.cell? ⟨wr.heap.size,2,none⟩=some (.int .i64 rn):=q_cell pq0 2
        have r3:W1.cell? ⟨wr.heap.size,3,none⟩=some (.int .i64 rl):=q_cell pq0 3
        have rlt:=q_lt pq0
        replace c4:=((bcell pB).1 _ _ l4).trans c4
        replace l4:=Nat.lt_of_lt_of_le l4 pB.size
        clear d0 d1 d2 d3 psz pq0 l5
        refine wp_region_S (fun w'=>∃u,w'=over (W1) u) [] [(0,0),(0,1),(0,2),(0,3),(0,4),(0,5),(0,6),(0,7),(0,8),(0,9),(0,10),(0,11),(0,12),(0,13),(0,14),(0,15),(0,16),(0,17),(0,18),(0,19)] (by kernel_rfl) (by kernel_rfl) (by exact ⟨_,below_over (by repeat (first|assumption|exact Below.refl _ _|refine keep_drew ?_|refine keep_alloc ?_ _|refine keep_trans ?_ (by assumption)))⟩) ?_
        dsimp only[pickOps,nthOp]
        repeat (first|(refine wpS_skip rfl (fun K hK=>?_);go_big_quiet_op;refine hK _ ?_;clear hK K)|(refine wpS_quiet rfl rfl (fun K hK=>?_);go_big_quiet_op;refine hK _ ?_;clear hK K))
        refine wpS_end ?_
        go_wp2_with fail
        go_roundw
        case rel=>exact ⟨q+1,by omega,by go_num,(hbq.trans (pB.mono hbq.size)).drew⟩
        case measure=>simp[intOf];omega
       ·go_wp2_with fail
        go_roundw
        case rel=>exact ⟨k+1,by omega,by go_num,hbq2⟩
        case measure=>simp[intOf];omega
   ·go_wp2_with (first|(go_at_call 17;refine (HA.out _).mono ?_;rintro _ w2 ⟨rfl,hb2⟩))
    go_ret
    exact ⟨rfl,keep_trans HCR.out (keep_trans hbr hb2)⟩
end
end Go.Proofs.YtcblpobiefmjmaaGreat
