/- Texts J224 to J227 of this proof, in one file. -/
import Derived.Test.YtpkghjoippcjeaaGreatDoorW03
import Derived.Test.YtpkghjoippcjeaaGreatDoorW16
import Derived.Test.YtpkghjoippcjeaaGreatDoorW68
namespace Go.Proofs.YtpkghjoippcjeaaGreatDoor
set_option maxRecDepth 100000
set_option maxHeartbeats 16000000
section
open Go Go.RowKit Go.Maps
attribute [local go_sem] over_cell
attribute [local go_sem] Oper.semAt_some
theorem nil_eql (W:World):Sem.run Tryz.prog (binOp BinOp.eql 22 (.slice none 0 0) (.slice none 0 0)) W = .ok (.bool true) W:=by kernel_rfl
attribute [local go_sem] nil_eql
theorem c12_of {w:World} {b:Nat} {r:Nat→Int} {T:TypeId} (h:w.heap[b]?=some (.cells #[.int .i64 (r 0),.int .i64 (r 1),.int .i64 (r 2),.int .i64 (r 3),.int .i64 (r 4),.int .i64 (r 5),.int .i64 (r 6),.int .i64 (r 7),.int .i64 (r 8),.int .i64 (r 9),.int .i64 (r 10),.int .i64 (r 11)] T (0,0))):w.cell? ⟨b,0,none⟩=some (.int .i64 (r 0))∧w.cell? ⟨b,1,none⟩=some (.int .i64 (r 1))∧w.cell? ⟨b,2,none⟩=some (.int .i64 (r 2))∧w.cell? ⟨b,3,none⟩=some (.int .i64 (r 3))∧w.cell? ⟨b,4,none⟩=some (.int .i64 (r 4))∧w.cell? ⟨b,5,none⟩=some (.int .i64 (r 5))∧w.cell? ⟨b,6,none⟩=some (.int .i64 (r 6))∧w.cell? ⟨b,7,none⟩=some (.int .i64 (r 7))∧w.cell? ⟨b,8,none⟩=some (.int .i64 (r 8))∧w.cell? ⟨b,9,none⟩=some (.int .i64 (r 9))∧w.cell? ⟨b,10,none⟩=some (.int .i64 (r 10))∧w.cell? ⟨b,11,none⟩=some (.int .i64 (r 11))∧b<w.heap.size :=
 ⟨q_cell h 0,q_cell h 1,q_cell h 2,q_cell h 3,q_cell h 4,q_cell h 5,q_cell h 6,q_cell h 7,q_cell h 8,q_cell h 9,q_cell h 10,q_cell h 11,q_lt h⟩
theorem chF_stop {T E:List Int} {r:Nat→Int} {k x:Nat} (h:T.any (fun i=>decide (r i.toNat - (x:Int)<0))=true):chF T E r (k+1) x=[]:=by
 unfold chF;rw[if_pos h]
theorem chF_go {T E:List Int} {r:Nat→Int} {k x:Nat} (h:T.any (fun i=>decide (r i.toNat - (x:Int)<0))=false):chF T E r (k+1) x=(if E.any (fun i=>decide (0<lessF T r x i.toNat)) then [] else [(x,lessF T r x)])++chF T E r k (x+1):=by
 conv=>lhs;unfold chF
 rw[if_neg (by rw[h];decide)]
theorem enterCh11:∀args w,Sem.run Tryz.prog (callFunc 81 args) w = .ok (.enter 81 args) w:=by
 intro args w;kernel_rfl
theorem ch11_c (b t:Nat) (f:Nat→Int) (w:World) (ht:t<12) (hq:w.heap[b]?=some (.cells #[.int .i64 (f 0),.int .i64 (f 1),.int .i64 (f 2),.int .i64 (f 3),.int .i64 (f 4),.int .i64 (f 5),.int .i64 (f 6),.int .i64 (f 7),.int .i64 (f 8),.int .i64 (f 9),.int .i64 (f 10),.int .i64 (f 11)] 90 (0,0))) :
  Calls Tryz.prog 81 #[.int .i64 (t:Int),.pointer (some ⟨b,0,none⟩)] w fun e w'=>e = .returned (.bool (decide (0<f t)))∧Below w.heap.size w w':=by
 have hc:w.cell? ⟨b,t,none⟩=some (.int .i64 (f t)):=(q_cell hq t).trans (v12_get f ht)
 have hl:=q_lt hq
 have hti:(t:Int)<12:=by omega
 clear hq
 generalize f t=y at hc ⊢
 go_enter Tryz.func81,Tryz.ntmps81
 go_wp2
 go_ret
 exact ⟨rfl,Below.refl _ _⟩
theorem any_anyP {E:List Int} (f:Int→Bool):anyP (fun k=>f (E[k]?.getD 0)) E.length=E.any f:=by
 unfold anyP
 rw[Bool.eq_iff_iff,List.any_eq_true,List.any_eq_true]
 constructor
 ·rintro ⟨k,hk,h⟩
  have hk2:=List.mem_range.1 hk
  rw[List.getElem?_eq_getElem hk2,Option.getD_some] at h
  exact ⟨_,List.getElem_mem _,h⟩
 ·rintro ⟨x,hx,h⟩
  obtain ⟨k,hk,rfl⟩:=List.getElem_of_mem hx
  exact ⟨k,List.mem_range.2 hk,by rw[List.getElem?_eq_getElem hk,Option.getD_some];exact h⟩
theorem ch1_c (S:SP) (w0 W:World) (b3 x c:Nat) (r:Nat→Int) (hSB:SB S w0) (hck:CKept w0 W) (hc:c<S.n) (hx0:w0.heap.size≤x) (hx3:x<b3)
  (q3:W.heap[b3]?=some (.cells #[.pointer (some ⟨S.bs,0,none⟩)] 93 (0,0))) (q4:W.heap[b3+1]?=some (.cells #[.int .i64 (c:Int)] 3 (0,0))) (q5:W.heap[b3+2]?=some (.cells #[.int .i64 (r 0),.int .i64 (r 1),.int .i64 (r 2),.int .i64 (r 3),.int .i64 (r 4),.int .i64 (r 5),.int .i64 (r 6),.int .i64 (r 7),.int .i64 (r 8),.int .i64 (r 9),.int .i64 (r 10),.int .i64 (r 11)] 90 (0,0)))
  (hr:okR r) (l:Nat) (J:List CP→World→Prop) (hJ:∀s A B,J s A→Below A.heap.size A B→J s B)
  (hY:∀pre p W1,J pre W1→(pre++[p]) <+: chA (S.Th c) (S.En c) r→YieldAt Fence.wide 0 Tryz.prog l (encP p) W1 fun e W'=>e = .returned (.bool true)∧J (pre++[p]) W'∧KpX x W1 W')
  (h0:J [] W) :
  Calls Tryz.prog 80 #[.func (.yield l) #[] #[],.pointer (some ⟨b3,0,none⟩),.pointer (some ⟨b3+1,0,none⟩),.pointer (some ⟨b3+2,0,none⟩)] W fun e W'=>(∃v,e = .returned v)∧∃xs,xs=chA (S.Th c) (S.En c) r∧J xs W':=by
 obtain ⟨T,hT⟩:∃T,S.Th c=T:=⟨_,rfl⟩
 obtain ⟨E,hE⟩:∃E,S.En c=E:=⟨_,rfl⟩
 have HLT:Hid (okLn T):=by unfold Hid;rw[← hT];exact hSB.lnT c
 have HLE:Hid (okLn E):=by unfold Hid;rw[← hE];exact hSB.lnE c
 have HNE:Hid (T≠[]∧T.Nodup):=by unfold Hid;rw[← hT];exact hSB.some c hc
 rw[hT,hE] at hY ⊢
 have HTE:=Lib.hid hT
 have HEE:=Lib.hid hE
 clear hT hE
 have HS:=Lib.hid hSB
 have HK:=Lib.hid hck
 have HJ:=Lib.hid hJ
 have HY:=Lib.hid hY
 have H0:=Lib.hid h0
 have Q3:=Lib.hid q3
 have Q4:=Lib.hid q4
 have Q5:=Lib.hid q5
 have HR:=Lib.hid hr
 clear hSB hck hJ hY h0 q3 q4 q5 hr
 refine (callsIn_wide (n:=0)).1 (callsIn_of_wp Tryz.func80 rfl trivial ?_ rfl)
 simp only[Tryz.ntmps80,List.size_toArray,List.length_cons,List.length_nil,Nat.reduceAdd,Nat.reduceSub,Array.replicate_succ,Array.replicate_zero,List.push_toArray,List.append_toArray,List.nil_append,List.cons_append]
 gi_wp2_with fail
 gi_loopw [5,6,8,9] (fun s5 _ _ _ wr=>∃(k:Nat) (done:List CP),k≤25∧s5 = .int .i64 (k:Int)∧Hid (chA T E r=done++chF T E r (26 - k) k)∧Hid (J done wr)∧Hid (KpX x W wr)) (fun s5 _ _ _ _=>26 - (intOf s5).toNat)
 case atStart=>exact ⟨0,[],by omega,rfl,rfl,H0.out,KpX.refl _ _⟩
 case round =>
  obtain ⟨k,done,hk,rfl,hL,hJ,hK⟩:=hrel
  have hq3:=hK.out.q Q3.out (show b3≠x by omega)
  have hq4:=hK.out.q Q4.out (show b3+1≠x by omega)
  have hq5:=hK.out.q Q5.out (show b3+2≠x by omega)
  have hsb:=HS.out.ck (HK.out.drop hK.out hx0)
  have c3:wr.cell? ⟨b3,0,none⟩=some (.pointer (some ⟨S.bs,0,none⟩)):=q_cell hq3 0
  have l3:=q_lt hq3
  have e2:wr.cell? ⟨S.bs,2,none⟩=some (.slice none 0 0):=q_cell hsb.sq 2
  have el:=q_lt hsb.sq
  have HSB:=Lib.hid hsb
  have HQ4:=Lib.hid hq4
  have HQ5:=Lib.hid hq5
  have HQ3:=Lib.hid hq3
  clear hq3 hq4 hq5 hsb
  gi_wp2_with fail
  refine (wpIn_wide (n:=0)).2 ?_
  refine wp_region_S (fun w'=>∃u,w'=over (wr) u) [] [(0,0),(0,1),(0,2),(0,3),(0,4),(0,5),(0,6),(0,7),(0,8),(0,9),(0,10),(0,11),(0,12),(0,13),(0,14),(0,15)] (by kernel_rfl) (by kernel_rfl) (by exact ⟨_,below_over (by repeat (first|assumption|exact Below.refl _ _|refine keep_drew ?_|refine keep_alloc ?_ _|refine keep_trans ?_ (by assumption)))⟩) ?_
  dsimp only[pickOps,nthOp]
  repeat (first|(refine wpS_skip rfl (fun K hK=>?_);go_big_quiet_op;refine hK _ ?_;clear hK K)|(refine wpS_quiet rfl rfl (fun K hK=>?_);go_big_quiet_op;refine hK _ ?_;clear hK K))
  refine wpS_end ?_
  have HK1:=Lib.hid (hK.out.trans (KpX.below (x:=x) (keep_drew (Below.refl wr.heap.size wr))))
  have HJ1:=Lib.hid (HJ.out _ _ _ hJ.out (keep_drew (Below.refl wr.heap.size wr)))
  generalize wr.drew=w1 at HK1 HJ1 ⊢
  clear c3 l3 e2 el HSB HQ4 HQ5 HQ3 hK hJ
  have hq5:=HK1.out.q Q5.out (show b3+2≠x by omega)
  obtain ⟨g0,g1,g2,g3,g4,g5,g6,g7,g8,g9,g10,g11,gl⟩:=c12_of hq5
  clear hq5
  gi_wp2_with fail
  clear g0 g1 g2 g3 g4 g5 g6 g7 g8 g9 g10 g11 gl
  have zsz:(w1.alloc (.cells #[.int .i64 (r 0),.int .i64 (r 1),.int .i64 (r 2),.int .i64 (r 3),.int .i64 (r 4),.int .i64 (r 5),.int .i64 (r 6),.int .i64 (r 7),.int .i64 (r 8),.int .i64 (r 9),.int .i64 (r 10),.int .i64 (r 11)] 90)).heap.size=w1.heap.size+1:=by simp only[World.size_alloc]
  have zB:Below w1.heap.size w1 (w1.alloc (.cells #[.int .i64 (r 0),.int .i64 (r 1),.int .i64 (r 2),.int .i64 (r 3),.int .i64 (r 4),.int .i64 (r 5),.int .i64 (r 6),.int .i64 (r 7),.int .i64 (r 8),.int .i64 (r 9),.int .i64 (r 10),.int .i64 (r 11)] 90)):=(Below.refl _ _).alloc (Nat.le_refl _) _
  have zq0:(w1.alloc (.cells #[.int .i64 (r 0),.int .i64 (r 1),.int .i64 (r 2),.int .i64 (r 3),.int .i64 (r 4),.int .i64 (r 5),.int .i64 (r 6),.int .i64 (r 7),.int .i64 (r 8),.int .i64 (r 9),.int .i64 (r 10),.int .i64 (r 11)] 90)).heap[w1.heap.size]?=some (.cells #[.int .i64 (r 0),.int .i64 (r 1),.int .i64 (r 2),.int .i64 (r 3),.int .i64 (r 4),.int .i64 (r 5),.int .i64 (r 6),.int .i64 (r 7),.int .i64 (r 8),.int .i64 (r 9),.int .i64 (r 10),.int .i64 (r 11)] 90 (0,0)):=by have h:=World.alloc_heap_new w1 (.cells #[.int .i64 (r 0),.int .i64 (r 1),.int .i64 (r 2),.int .i64 (r 3),.int .i64 (r 4),.int .i64 (r 5),.int .i64 (r 6),.int .i64 (r 7),.int .i64 (r 8),.int .i64 (r 9),.int .i64 (r 10),.int .i64 (r 11)] 90);exact h
  generalize (w1.alloc (.cells #[.int .i64 (r 0),.int .i64 (r 1),.int .i64 (r 2),.int .i64 (r 3),.int .i64 (r 4),.int .i64 (r 5),.int .i64 (r 6),.int .i64 (r 7),.int .i64 (r 8),.int .i64 (r 9),.int .i64 (r 10),.int .i64 (r 11)] 90))=W2 at zsz zB zq0 ⊢
  have HBZ:=Lib.hid zB
  have HQZ:=Lib.hid zq0
  have hsb:=HS.out.ck (HK.out.drop HK1.out hx0)
  have hw1:W.heap.size≤w1.heap.size:=HK1.out.1
  have hb3W:b3+2<W.heap.size:=q_lt Q5.out
  have hq3:=keepq zB (HK1.out.q Q3.out (show b3≠x by omega))
  have hq4:=keepq zB (HK1.out.q Q4.out (show b3+1≠x by omega))
  have c3:W2.cell? ⟨b3,0,none⟩=some (.pointer (some ⟨S.bs,0,none⟩)):=q_cell hq3 0
  have l3:=q_lt hq3
  have c4:W2.cell? ⟨b3+1,0,none⟩=some (.int .i64 (c:Int)):=q_cell hq4 0
  have l4:=q_lt hq4
  have e0:W2.cell? ⟨S.bs,0,none⟩=some (.slice S.aT S.n S.cT):=q_cell (keepq zB hsb.sq) 0
  have el:=q_lt (keepq zB hsb.sq)
  obtain ⟨bT,oT,aR,nR,cR,haT,hbT,hcT,hicT,hcapT⟩:=hsb.tr.2 c hc
  rw[haT] at e0
  rw[show S.TL[c]?.getD []=T from HTE.out] at hicT
  have hbT2:=Nat.lt_of_lt_of_le hbT zB.size
  have hcT2:=(zB.cell (p:=⟨bT,oT+c,none⟩) hbT).trans hcT
  have hcn:(c:Int)<(S.n:Int):=by omega
  have HIT:=Lib.hid hicT
  have HSB:=Lib.hid hsb
  have hnR:nR≤17592186044416:=hicT.small
  clear hq3 hq4 hsb zB zq0 zsz hicT hcT hbT
  gi_wp2_with fail
  refine (wpIn_wide (n:=0)).2 ?_
  refine wp_region_S (fun w'=>∃u,w'=over (W2) u) [] [(0,0),(0,1),(0,2),(0,3),(0,4),(0,5),(0,6),(0,7),(0,8)] (by kernel_rfl) (by kernel_rfl) (by exact ⟨_,below_over (by repeat (first|assumption|exact Below.refl _ _|refine keep_drew ?_|refine keep_alloc ?_ _|refine keep_trans ?_ (by assumption)))⟩) ?_
  dsimp only[pickOps,nthOp]
  repeat (first|(refine wpS_skip rfl (fun K hK=>?_);go_big_quiet_op;refine hK _ ?_;clear hK K)|(refine wpS_quiet rfl rfl (fun K hK=>?_);go_big_quiet_op;refine hK _ ?_;clear hK K))
  refine wpS_end ?_
  have HB3:=Lib.hid (keep_trans HBZ.out (keep_drew (Below.refl W2.heap.size W2)))
  have HQ3:=Lib.hid (keepq (keep_drew (Below.refl W2.heap.size W2)) HQZ.out)
  generalize W2.drew=w3 at HB3 HQ3 ⊢
  obtain ⟨bn,hbn⟩:∃bn,w1.heap.size=bn:=⟨_,rfl⟩
  rw[hbn] at HB3 HQ3 ⊢
  have HBN:=Lib.hid hbn
  have hbn3:b3+2<bn:=by omega
  clear hbn HBZ HQZ c3 l3 c4 l4 e0 el hcT2 hbT2 hcapT
  gi_wp2_with fail
  gi_loopw [8,37] (fun _ s37 wv=>∃j:Nat,j≤nR∧s37 = .int .i64 (j:Int)∧Hid (wv.heap[bn]?=some (.cells #[.int .i64 (lessF (T.take j) r (k:Int) 0),.int .i64 (lessF (T.take j) r (k:Int) 1),.int .i64 (lessF (T.take j) r (k:Int) 2),.int .i64 (lessF (T.take j) r (k:Int) 3),.int .i64 (lessF (T.take j) r (k:Int) 4),.int .i64 (lessF (T.take j) r (k:Int) 5),.int .i64 (lessF (T.take j) r (k:Int) 6),.int .i64 (lessF (T.take j) r (k:Int) 7),.int .i64 (lessF (T.take j) r (k:Int) 8),.int .i64 (lessF (T.take j) r (k:Int) 9),.int .i64 (lessF (T.take j) r (k:Int) 10),.int .i64 (lessF (T.take j) r (k:Int) 11)] 90 (0,0)))∧Hid (Below bn w1 wv)∧Hid (∀i,i<j→¬(r (T[i]?.getD 0).toNat - (k:Int)<0))) (fun _ s37 _=>nR - (intOf s37).toNat)
  case atStart=>exact ⟨0,by omega,rfl,HQ3.out,HB3.out,fun i hi=>absurd hi (Nat.not_lt_zero _)⟩
  case round =>
   obtain ⟨j,hj,rfl,hQ,hB,hNG⟩:=hrel
   clear HQ3 HB3
   have hbv:Below w1.heap.size w1 wr:=by rw[HBN.out];exact hB.out
   have HBV:=Lib.hid hbv
   clear hbv
   by_cases hjn:j<nR
   ·have hji:(j:Int)<(nR:Int):=by omega
    obtain ⟨b,off,rfl,hbl,hcv⟩:=(HIT.out.mono HBV.out).2 j hjn
    have hTl:T.length=nR:=HIT.out.len
    have hm:T[j]?.getD 0∈T:=by
     rw[List.getElem?_eq_getElem (by rw[hTl];exact hjn)]
     exact List.getElem_mem _
    have h12:=HLT.out _ hm
    obtain ⟨t,ht⟩:∃t:Nat,T[j]?.getD 0=(t:Int):=⟨(T[j]?.getD 0).toNat,by omega⟩
    have htk:T.take (j+1)=T.take j++[(t:Int)]:=by
     rw[List.take_add_one,← ht,List.getElem?_eq_getElem (by rw[hTl];exact hjn)];rfl
    have hnot:¬(t:Int)∈T.take j:=by
     intro h
     have hnd:(T.take (j+1)).Nodup:=HNE.out.2.sublist (List.take_sublist _ _)
     rw[htk,List.nodup_append] at hnd
     exact hnd.2.2 _ h _ (List.mem_singleton.2 rfl) rfl
    have HNT:=Lib.hid hnot
    have HTK:=Lib.hid htk
    have HTJ:=Lib.hid ht
    rw[ht] at hcv h12
    have ht12:t<12:=by omega
    have hti:(t:Int)<12:=by omega
    have d1:wr.cell? ⟨bn,t,none⟩=some (.int .i64 (r t)):=by
     rw[← lessF_out (T:=T.take j) r (k:Int) hnot]
     exact (q_cell hQ.out t).trans (v12_get _ ht12)
    have d2:=q_free hQ.out t
    have d3:=q_lt hQ.out
    have hrt:=HR.out t ht12
    have HRT:Hid (∀y,y=r t→r (T[j]?.getD 0).toNat=y):=fun y e=>by rw[ht,Int.toNat_natCast,e]
    have HQN:=Lib.hid (q_set (i:=t) hQ.out (.int .i64 (r t - (k:Int))))
    have HBN2:=Lib.hid (hB.out.setCell (p:=⟨bn,t,none⟩) (Nat.le_refl _) (.int .i64 (r t - (k:Int))))
    rw[v12_set _ ht12,lessF_snoc r (k:Int) hnot,← htk] at HQN
    clear ht htk hnot hm hTl
    obtain ⟨y,hy⟩:∃y,r t=y:=⟨_,rfl⟩
    rw[hy] at d1 hrt HQN HBN2
    have HYT:=Lib.hid (HRT.out y hy.symm)
    clear hy HRT
    by_cases hneg:y - (k:Int)<0
    ·have hnd:decide (y - (k:Int)<0)=true:=decide_eq_true hneg
     have hst:chF T E r (26 - k) k=[]:=by
      rw[show 26 - k=(25 - k)+1 by omega]
      refine chF_stop (List.any_eq_true.2 ⟨T[j]?.getD 0,?_,?_⟩)
      ·rw[List.getElem?_eq_getElem (by rw[HIT.out.len];exact hjn)]
       exact List.getElem_mem _
      ·rw[HYT.out];exact hnd
     have HXS:Hid (chA T E r=done):=by
      unfold Hid
      rw[hL.out,hst,List.append_nil]
     have HJF:Hid (J done (wr.setCell ⟨bn,t,none⟩ (.int .i64 (y - (k:Int))))):=HJ.out _ _ _ HJ1.out (by rw[HBN.out];exact HBN2.out)
     clear hst
     gi_wp2_with fail
     refine bodyPost_ret (results_none rfl _ _ _) rfl ⟨⟨_,rfl⟩,by rw[HXS.out];exact HJF.out⟩
    ·have hnd:decide (y - (k:Int)<0)=false:=decide_eq_false hneg
     have HNG:Hid (∀i,i<j+1→¬(r (T[i]?.getD 0).toNat - (k:Int)<0)):=fun i hi=>by
      rcases Nat.lt_or_ge i j with h|h
      ·exact hNG.out i h
      ·rw[show i=j by omega,HYT.out];exact hneg
     gi_wp2_with fail
     go_roundw
     case rel=>exact ⟨j+1,by omega,by go_num,HQN,HBN2,HNG⟩
     case measure=>simp[intOf];omega
   ·have e:nR=j:=by omega
    subst e
    have hTl:T.length=nR:=HIT.out.len
    have hQ2:=hQ.out
    rw[show T.take nR=T from List.take_of_length_le (by rw[hTl];exact Nat.le_refl _)] at hQ2
    have hany:T.any (fun i=>decide (r i.toNat - (k:Int)<0))=false:=by
     rw[List.any_eq_false]
     intro i hi
     obtain ⟨q,hq,rfl⟩:=List.getElem_of_mem hi
     have:=hNG.out q (by rw[← hTl];exact hq)
     rw[List.getElem?_eq_getElem hq,Option.getD_some] at this
     rw[decide_eq_true_eq]
     omega
    have hk24:k≤24:=by
     obtain ⟨t,ht⟩:=List.exists_mem_of_ne_nil T HNE.out.1
     have h12:=HLT.out t ht
     rw[List.any_eq_false] at hany
     have:=hany t ht
     rw[decide_eq_true_eq] at this
     have:=HR.out t.toNat (by omega)
     omega
    have HGO:=Lib.hid (chF_go (E:=E) (k:=25 - k) hany)
    obtain ⟨f,hf⟩:∃f,lessF T r (k:Int)=f:=⟨_,rfl⟩
    rw[hf] at hQ2 HGO
    have HF:=Lib.hid hf
    have hsb:=HSB.out
    have hq3:=keepq HBV.out (HK1.out.q Q3.out (show b3≠x by omega))
    have hq4:=keepq HBV.out (HK1.out.q Q4.out (show b3+1≠x by omega))
    have c3:wr.cell? ⟨b3,0,none⟩=some (.pointer (some ⟨S.bs,0,none⟩)):=q_cell hq3 0
    have l3:=q_lt hq3
    have c4:wr.cell? ⟨b3+1,0,none⟩=some (.int .i64 (c:Int)):=q_cell hq4 0
    have l4:=q_lt hq4
    have e0:wr.cell? ⟨S.bs,1,none⟩=some (.slice S.aE S.n S.cE):=q_cell (keepq HBV.out hsb.sq) 1
    have el:=q_lt (keepq HBV.out hsb.sq)
    obtain ⟨bE,oE,aQ,nQ,cQ,haE,hbE,hcE,hicE,_⟩:=hsb.en.2 c hc
    rw[haE] at e0
    rw[show S.EL[c]?.getD []=E from HEE.out] at hicE
    have hbE2:=Nat.lt_of_lt_of_le hbE HBV.out.size
    have hcE2:=(HBV.out.cell (p:=⟨bE,oE+c,none⟩) hbE).trans hcE
    have hEl:=hicE.len
    have HCF:Hid (∀W',Below wr.heap.size wr W'→Calls Tryz.prog 22 #[.slice aQ nQ cQ,.func (.func 81) #[] #[.pointer (some ⟨bn,0,none⟩)]] W' fun e w'=>e = .returned (.bool (E.any (fun i=>decide (0<f i.toNat))))∧Below W'.heap.size W' w'):=fun W' hb'=>by
     have:=containsFuncI_c aQ nQ cQ E 81 #[.pointer (some ⟨bn,0,none⟩)] (fun q=>decide (0<f (E[q]?.getD 0).toNat)) W' ((hicE.mono HBV.out).mono hb') enterCh11 (fun q hq w'' hb''=>by
      have hm:E[q]?.getD 0∈E:=by
       rw[List.getElem?_eq_getElem (by rw[hEl];exact hq)]
       exact List.getElem_mem _
      have h12:=HLE.out _ hm
      obtain ⟨t,ht⟩:∃t:Nat,E[q]?.getD 0=(t:Int):=⟨(E[q]?.getD 0).toNat,by omega⟩
      rw[ht,Int.toNat_natCast]
      exact ch11_c bn t f w'' (by omega) (keepq hb'' (keepq hb' hQ2)))
     rw[← hEl,any_anyP (fun i=>decide (0<f i.toNat))] at this
     rw[← hEl]
     exact this
    have HQ2:=Lib.hid hQ2
    obtain ⟨bb,hbb⟩:∃bb,E.any (fun i=>decide (0<f i.toNat))=bb:=⟨_,rfl⟩
    rw[hbb] at HCF HGO
    clear hTl hQ2 hany hf hsb hq3 hq4 hicE hEl hbb hbE hcE
    gi_wp2_with fail
    refine (wpIn_wide (n:=0)).2 ?_
    refine wp_region_S (fun w'=>∃u,w'=over (wr) u) [10] [(0,0),(0,1),(0,2),(0,3),(0,4),(0,5),(0,6),(0,7),(1,8),(0,9),(2,10)] (by kernel_rfl) (by kernel_rfl) (by exact ⟨_,below_over (by repeat (first|assumption|exact Below.refl _ _|refine keep_drew ?_|refine keep_alloc ?_ _|refine keep_trans ?_ (by assumption)))⟩) ?_
    dsimp only[pickOps,nthOp]
    repeat (first|(refine wpS_skip rfl (fun K hK=>?_);go_big_quiet_op;refine hK _ ?_;clear hK K)|(refine wpS_quiet rfl rfl (fun K hK=>?_);go_big_quiet_op;refine hK _ ?_;clear hK K)|(refine wpS_loud ?_;go_wp2_with (first|(go_at_call 22;refine (HCF.out _ (keep_drew (Below.refl _ _))).mono ?_;rintro _ w5 ⟨rfl,hb5⟩)|fail);refine ⟨?_,?_⟩;focus (exact ⟨_,below_over (by repeat (first|assumption|exact Below.refl _ _|refine keep_drew ?_|refine keep_alloc ?_ _|refine keep_trans ?_ (by assumption)))⟩)))
    refine wpS_late _ _ _ rfl ?_
    dsimp only[List.map]
    go_wp2_with (first|(go_at_call 22;refine (HCF.out _ (keep_drew (Below.refl _ _))).mono ?_;rintro _ w5 ⟨rfl,hb5⟩)|fail)
    refine NoPanic.normal ?_
    have hb15:Below w1.heap.size w1 w5:=keep_trans HBV.out (keep_trans (keep_drew (Below.refl wr.heap.size wr)) hb5)
    have hq5:=keepq (keep_trans (keep_drew (Below.refl wr.heap.size wr)) hb5) HQ2.out
    obtain ⟨g0,g1,g2,g3,g4,g5,g6,g7,g8,g9,g10,g11,gl⟩:=c12_of hq5
    have HJ5:=Lib.hid (HJ.out _ _ _ HJ1.out hb15)
    have HK5:=Lib.hid (HK1.out.trans (KpX.below (x:=x) hb15))
    have HL2:Hid (chA T E r=done++((if bb=true then [] else [(k,f)])++chF T E r (25 - k) (k+1))):=by
     unfold Hid
     rw[hL.out,show 26 - k=25 - k+1 by omega,HGO.out]
    clear hq5 hb15 hb5 HCF c3 l3 c4 l4 e0 el hcE2 hbE2
    cases bb with
    | true =>
     have HL3:Hid (chA T E r=done++chF T E r (26 - (k+1)) (k+1)):=by
      unfold Hid
      rw[HL2.out,if_pos rfl,List.nil_append,show 26 - (k+1)=25 - k by omega]
     gi_wp2_with (first|(with_reducible refine ⟨wide_fn _,?_⟩)|(with_reducible refine ⟨wide_depth,?_⟩)|(with_reducible refine ⟨wide_all,?_⟩)|fail)
     go_roundw
     case rel=>exact ⟨k+1,done,by omega,by go_num,HL3,HJ5,HK5⟩
     case measure=>simp[intOf];omega
    | false =>
     have HL3:Hid (chA T E r=(done++[(k,f)])++chF T E r (26 - (k+1)) (k+1)):=by
      unfold Hid
      rw[HL2.out,if_neg (by decide),show 26 - (k+1)=25 - k by omega,List.append_assoc]
     obtain ⟨fn,tmps,assign,body,hy,hR⟩:=HY.out done (k,f) w5 HJ5.out ⟨chF T E r (26 - (k+1)) (k+1),HL3.out.symm⟩
     have hy2:(Instr.yield l #[.int .i64 (k:Int),.agg #[.int .i64 (f 0),.int .i64 (f 1),.int .i64 (f 2),.int .i64 (f 3),.int .i64 (f 4),.int .i64 (f 5),.int .i64 (f 6),.int .i64 (f 7),.int .i64 (f 8),.int .i64 (f 9),.int .i64 (f 10),.int .i64 (f 11)]]).run Tryz.prog w5 = .ok (.round l fn tmps assign body) w5:=hy
     clear hy
     gi_wp2_with (first|(with_reducible refine ⟨wide_fn _,?_⟩)|(with_reducible refine ⟨wide_depth,?_⟩)|(with_reducible refine ⟨wide_all,?_⟩)|fail)
     refine hR.mono ?_
     rintro e W3 ⟨rfl,hJ3,hk3⟩
     have HJ6:=Lib.hid hJ3
     have HK6:=Lib.hid (HK5.out.trans hk3)
     clear hJ3 hk3 hy2 hR
     gi_wp2_with (first|(with_reducible refine ⟨wide_fn _,?_⟩)|(with_reducible refine ⟨wide_depth,?_⟩)|(with_reducible refine ⟨wide_all,?_⟩)|fail)
     go_roundw
     case rel=>exact ⟨k+1,_,by omega,by go_num,HL3,HJ6,HK6⟩
     case measure=>simp[intOf];omega
end
section
open Go Go.RowKit Go.Maps
def overC (w u:World):World:={ u with heap:=((w.heap.toList.zipIdx.map fun p=>if p.1.isCells=true then p.1 else u.heap[p.2]?.getD p.1)++u.heap.toList.drop w.heap.size).toArray }
def isC (w:World) (b:Nat):Prop:=∃vs t r,w.heap[b]?=some (.cells vs t r)
theorem overC_heap (w u:World) (b:Nat) (h:isC w b):(overC w u).heap[b]?=w.heap[b]?:=by
 obtain ⟨vs,t,r,e⟩:=h
 have hl:=q_lt e
 simp only[overC]
 rw[List.getElem?_toArray,List.getElem?_append_left (by simpa using hl),List.getElem?_map,List.getElem?_zipIdx]
 have e2:w.heap.toList[b]?=some (.cells vs t r):=by simpa using e
 rw[e2,e]
 simp[Obj.isCells]
theorem overC_cell (w u:World) (b o:Nat) (h:isC w b):(overC w u).cell? ⟨b,o,none⟩=w.cell? ⟨b,o,none⟩:=World.cell?_of_block (w:=w) (w':=overC w u) (overC_heap w u b h)
theorem ck_over {w w':World} (h:CKept w w'):w'=overC w w':=by
 cases w' with
 | mk hp tp dr os ou =>
  simp only[overC,World.mk.injEq,and_true]
  apply Array.ext_getElem?
  intro k
  have e:∀X:List Obj,(X.toArray)[k]?=X[k]?:=fun X=>by simp
  refine Eq.trans ?_ (e _).symm
  rcases Nat.lt_or_ge k w.heap.size with hk|hk
  ·rw[List.getElem?_append_left (by simpa using hk),List.getElem?_map,List.getElem?_zipIdx]
   have hq:w.heap.toList[k]?=some (w.heap[k]'hk):=by simp
   rw[hq]
   have hkp:k<hp.size:=Nat.lt_of_lt_of_le hk h.1
   by_cases hc:(w.heap[k]'hk).isCells=true
   ·have h2:hp[k]?=some (w.heap[k]'hk):=h.2 k _ (Array.getElem?_eq_getElem hk) hc
    simp[hc,h2]
   ·have h2:hp[k]?=some (hp[k]'hkp):=Array.getElem?_eq_getElem hkp
    simp[hc,h2]
  ·rw[List.getElem?_append_right (by simpa using hk),List.getElem?_drop]
   simp
   congr 1
   omega
theorem isC_of {w:World} {b:Nat} {vs:Array Value} {t:TypeId} {r:Nat × Nat} (h:w.heap[b]?=some (.cells vs t r)):isC w b:=⟨vs,t,r,h⟩
def MbS (S:SP) (j:Nat):Prop:=∃c,c<S.n∧j=S.mb c
def bud:Nat→Nat
 | 0=>0
 | k+1=>26*bud k+1
theorem bud_le:∀k,bud k≤26 ^ k:=by
 intro k
 induction k with
 | zero=>decide
 | succ k ih =>
  show 26*bud k+1≤26 ^ (k+1)
  rw[Nat.pow_succ]
  have:bud k+1≤26 ^ k∨bud k=26 ^ k:=by omega
  cases k with
  | zero=>decide
  | succ k =>
   have h2:25*bud (k+1)+1≤26 ^ (k+1):=by
    clear this ih
    induction k with
    | zero=>decide
    | succ k ih2 =>
     show 25*(26*bud (k+1)+1)+1≤_
     rw[Nat.pow_succ]
     omega
   omega
structure SM (S:SP) (N:Nat) (W:World):Prop where
 ok:∀c,c<S.n→∃g,MapV W Tryz.prog 90 kap12 (S.mb c) N g∧∀K v,g K=some v→v = .int .i64 ((cntF S.Th S.En (S.n - c) c (r12 K):Nat):Int)
 inj:∀c c',c<S.n→c'<S.n→S.mb c=S.mb c'→c=c'
theorem SM.lt {S:SP} {N:Nat} {W:World} (h:SM S N W) {c:Nat} (hc:c<S.n):S.mb c<W.heap.size:=by obtain ⟨g,h1,_⟩:=h.ok c hc;exact h1.lt
theorem SM.same {S:SP} {N:Nat} {W W':World} (h:SM S N W) (hb:∀c,c<S.n→W'.heap[S.mb c]?=W.heap[S.mb c]?):SM S N W' :=
 ⟨fun c hc=>by obtain ⟨g,h1,h2⟩:=h.ok c hc;exact ⟨g,h1.block (hb c hc),h2⟩,h.inj⟩
theorem SM.below {S:SP} {N:Nat} {W W':World} (h:SM S N W) (hb:Below W.heap.size W W'):SM S N W':=h.same fun _ hc=>hb.block _ (h.lt hc)
theorem SM.more {S:SP} {N N':Nat} {W:World} (h:SM S N W) (hn:N≤N'):SM S N' W:=⟨fun c hc=>by obtain ⟨g,h1,h2⟩:=h.ok c hc;exact ⟨g,h1.more hn,h2⟩,h.inj⟩
theorem SM.map {S:SP} {N:Nat} {W:World} (h:SM S N W) {c:Nat} (hc:c<S.n):∃es cl,W.heap[S.mb c]?=some (.map es cl):=by
 obtain ⟨g,⟨D,⟨es,cl,h1,_⟩,_⟩,_⟩:=h.ok c hc
 exact ⟨es,cl,h1⟩
theorem SM.ck {S:SP} {N:Nat} {W W':World} (h:SM S N W) (hs:Stays (MbS S) W W'):CKept W W' :=
 ⟨hs.size,fun j o hj ho=>(hs.block j (q_lt hj) (fun ⟨_,hc,e⟩=>by
  obtain ⟨es,cl,hm⟩:=h.map hc
  subst e
  rw[hm] at hj
  cases hj
  cases ho)).trans hj⟩
theorem ch_seq (S:SP) (w0 W:World) (b3 x c:Nat) (r:Nat→Int) (hSB:SB S w0) (hck:CKept w0 W) (hc:c<S.n) (hx0:w0.heap.size≤x) (hx3:x<b3)
  (q3:W.heap[b3]?=some (.cells #[.pointer (some ⟨S.bs,0,none⟩)] 93 (0,0))) (q4:W.heap[b3+1]?=some (.cells #[.int .i64 (c:Int)] 3 (0,0))) (q5:W.heap[b3+2]?=some (.cells #[.int .i64 (r 0),.int .i64 (r 1),.int .i64 (r 2),.int .i64 (r 3),.int .i64 (r 4),.int .i64 (r 5),.int .i64 (r 6),.int .i64 (r 7),.int .i64 (r 8),.int .i64 (r 9),.int .i64 (r 10),.int .i64 (r 11)] 90 (0,0))) (hr:okR r) :
  SeqB Tryz.prog 80 #[.pointer (some ⟨b3,0,none⟩),.pointer (some ⟨b3+1,0,none⟩),.pointer (some ⟨b3+2,0,none⟩)] encP (KpX x) (fun xs=>xs=chA (S.Th c) (S.En c) r) (fun pre=>pre <+: chA (S.Th c) (S.En c) r) W :=
 fun l J W1 hb hJ hY h0=>ch1_c S w0 W1 b3 x c r hSB (hck.trans (CKept.below hb)) hc hx0 hx3 (keepq hb q3) (keepq hb q4) (keepq hb q5) hr l J hJ hY h0
end
section
open Go Go.RowKit Go.Maps
attribute [local go_sem] over_cell
attribute [local go_sem] overC_cell
attribute [local go_sem] Oper.semAt_some
theorem zeroIntC (w:World):(zeroValue 3).run Tryz.prog w = .ok (.int .i64 0) w:=by kernel_rfl
def sumP (Th En:Nat→List Int) (k c:Nat) (pre:List CP):Nat:=(pre.map fun p=>cntF Th En k c p.2).sum
theorem sumP_snoc (Th En:Nat→List Int) (k c:Nat) (pre:List CP) (p:CP):sumP Th En k c (pre++[p])=sumP Th En k c pre+cntF Th En k c p.2:=by
 unfold sumP;rw[List.map_append,List.sum_append];simp
theorem cnt_zero (S:SP) (r:Nat→Int) (N:Nat) (w:World) (hB:SB S w) (hM:SM S N w) :
  Calls Tryz.prog 57 #[.pointer (some ⟨S.bs,0,none⟩),.int .i64 (S.n:Int),.agg #[.int .i64 (r 0),.int .i64 (r 1),.int .i64 (r 2),.int .i64 (r 3),.int .i64 (r 4),.int .i64 (r 5),.int .i64 (r 6),.int .i64 (r 7),.int .i64 (r 8),.int .i64 (r 9),.int .i64 (r 10),.int .i64 (r 11)]] w fun e w'=>e = .returned (.int .i64 1)∧SM S N w'∧Stays (MbS S) w w':=by
 have HB:=Lib.hid hB
 have HM:=Lib.hid hM
 clear hB hM
 go_enter Tryz.func57,Tryz.ntmps57
 go_upto_region 1 with fail
 have fsz:(((w.alloc (.cells #[.pointer (some ⟨S.bs,0,none⟩)] 93)).alloc (.cells #[.int .i64 (S.n:Int)] 3)).alloc (.cells #[.int .i64 (r 0),.int .i64 (r 1),.int .i64 (r 2),.int .i64 (r 3),.int .i64 (r 4),.int .i64 (r 5),.int .i64 (r 6),.int .i64 (r 7),.int .i64 (r 8),.int .i64 (r 9),.int .i64 (r 10),.int .i64 (r 11)] 90)).heap.size=w.heap.size+3:=by simp only[World.size_alloc] <;> omega
 have fB:Below w.heap.size w (((w.alloc (.cells #[.pointer (some ⟨S.bs,0,none⟩)] 93)).alloc (.cells #[.int .i64 (S.n:Int)] 3)).alloc (.cells #[.int .i64 (r 0),.int .i64 (r 1),.int .i64 (r 2),.int .i64 (r 3),.int .i64 (r 4),.int .i64 (r 5),.int .i64 (r 6),.int .i64 (r 7),.int .i64 (r 8),.int .i64 (r 9),.int .i64 (r 10),.int .i64 (r 11)] 90)):=(((Below.refl _ _).alloc (Nat.le_refl _) _).alloc (by simp only[World.size_alloc];omega) _).alloc (by simp only[World.size_alloc];omega) _
 have fq0:(((w.alloc (.cells #[.pointer (some ⟨S.bs,0,none⟩)] 93)).alloc (.cells #[.int .i64 (S.n:Int)] 3)).alloc (.cells #[.int .i64 (r 0),.int .i64 (r 1),.int .i64 (r 2),.int .i64 (r 3),.int .i64 (r 4),.int .i64 (r 5),.int .i64 (r 6),.int .i64 (r 7),.int .i64 (r 8),.int .i64 (r 9),.int .i64 (r 10),.int .i64 (r 11)] 90)).heap[w.heap.size]?=some (.cells #[.pointer (some ⟨S.bs,0,none⟩)] 93 (0,0)):=by have h:=World.alloc_heap_new w (.cells #[.pointer (some ⟨S.bs,0,none⟩)] 93);exact (Below.heap_alloc _ _ _ (by simp only[World.size_alloc];omega)).trans ((Below.heap_alloc _ _ _ (by simp only[World.size_alloc];omega)).trans (h))
 have fq1:(((w.alloc (.cells #[.pointer (some ⟨S.bs,0,none⟩)] 93)).alloc (.cells #[.int .i64 (S.n:Int)] 3)).alloc (.cells #[.int .i64 (r 0),.int .i64 (r 1),.int .i64 (r 2),.int .i64 (r 3),.int .i64 (r 4),.int .i64 (r 5),.int .i64 (r 6),.int .i64 (r 7),.int .i64 (r 8),.int .i64 (r 9),.int .i64 (r 10),.int .i64 (r 11)] 90)).heap[w.heap.size+1]?=some (.cells #[.int .i64 (S.n:Int)] 3 (0,0)):=by have h:=World.alloc_heap_new (w.alloc (.cells #[.pointer (some ⟨S.bs,0,none⟩)] 93)) (.cells #[.int .i64 (S.n:Int)] 3);simp only[World.size_alloc] at h;exact (Below.heap_alloc _ _ _ (by simp only[World.size_alloc];omega)).trans (h)
 have fq2:(((w.alloc (.cells #[.pointer (some ⟨S.bs,0,none⟩)] 93)).alloc (.cells #[.int .i64 (S.n:Int)] 3)).alloc (.cells #[.int .i64 (r 0),.int .i64 (r 1),.int .i64 (r 2),.int .i64 (r 3),.int .i64 (r 4),.int .i64 (r 5),.int .i64 (r 6),.int .i64 (r 7),.int .i64 (r 8),.int .i64 (r 9),.int .i64 (r 10),.int .i64 (r 11)] 90)).heap[w.heap.size+1+1]?=some (.cells #[.int .i64 (r 0),.int .i64 (r 1),.int .i64 (r 2),.int .i64 (r 3),.int .i64 (r 4),.int .i64 (r 5),.int .i64 (r 6),.int .i64 (r 7),.int .i64 (r 8),.int .i64 (r 9),.int .i64 (r 10),.int .i64 (r 11)] 90 (0,0)):=by have h:=World.alloc_heap_new ((w.alloc (.cells #[.pointer (some ⟨S.bs,0,none⟩)] 93)).alloc (.cells #[.int .i64 (S.n:Int)] 3)) (.cells #[.int .i64 (r 0),.int .i64 (r 1),.int .i64 (r 2),.int .i64 (r 3),.int .i64 (r 4),.int .i64 (r 5),.int .i64 (r 6),.int .i64 (r 7),.int .i64 (r 8),.int .i64 (r 9),.int .i64 (r 10),.int .i64 (r 11)] 90);simp only[World.size_alloc] at h;exact h
 generalize (((w.alloc (.cells #[.pointer (some ⟨S.bs,0,none⟩)] 93)).alloc (.cells #[.int .i64 (S.n:Int)] 3)).alloc (.cells #[.int .i64 (r 0),.int .i64 (r 1),.int .i64 (r 2),.int .i64 (r 3),.int .i64 (r 4),.int .i64 (r 5),.int .i64 (r 6),.int .i64 (r 7),.int .i64 (r 8),.int .i64 (r 9),.int .i64 (r 10),.int .i64 (r 11)] 90))=W0 at fsz fB fq0 fq1 fq2 ⊢
 have FB:=Lib.hid fB
 have hsq:=keepq fB HB.out.sq
 have c0:W0.cell? ⟨w.heap.size,0,none⟩=some (.pointer (some ⟨S.bs,0,none⟩)):=q_cell fq0 0
 have l0:=q_lt fq0
 have c1:W0.cell? ⟨w.heap.size+1,0,none⟩=some (.int .i64 (S.n:Int)):=q_cell fq1 0
 have l1:=q_lt fq1
 have e0:W0.cell? ⟨S.bs,0,none⟩=some (.slice S.aT S.n S.cT):=q_cell hsq 0
 have el:=q_lt hsq
 clear fB fq0 fq1 fq2 fsz hsq
 refine wp_region_S (fun w'=>∃u,w'=over (W0) u) [] [(0,0),(0,1),(0,2),(0,3),(0,4),(0,5),(0,6)] (by kernel_rfl) (by kernel_rfl) (by exact ⟨_,below_over (by repeat (first|assumption|exact Below.refl _ _|refine keep_drew ?_|refine keep_alloc ?_ _|refine keep_trans ?_ (by assumption)))⟩) ?_
 dsimp only[pickOps,nthOp]
 repeat (first|(refine wpS_skip rfl (fun K hK=>?_);go_big_quiet_op;refine hK _ ?_;clear hK K)|(refine wpS_quiet rfl rfl (fun K hK=>?_);go_big_quiet_op;refine hK _ ?_;clear hK K))
 refine wpS_end ?_
 go_wp2_with fail
 have hb:=keep_trans FB.out (keep_drew (Below.refl W0.heap.size W0))
 refine bodyPost_ret (v := .int .i64 1) ?_ rfl ⟨rfl,HM.out.below hb,Below.stays hb _⟩
 simp[results,Tryz.f57,go_sem]
structure CntP (S:SP) (w:World) (k c N x:Nat) (r:Nat→Int) (pre:List CP) (W:World):Prop where
 st:Stays (MbS S) w W
 ms:SM S (N+pre.length*bud k) W
 b0:W.heap[w.heap.size]?=some (.cells #[.pointer (some ⟨S.bs,0,none⟩)] 93 (0,0))
 b1:W.heap[w.heap.size+1]?=some (.cells #[.int .i64 (c:Int)] 3 (0,0))
 b2:W.heap[w.heap.size+1+1]?=some (.cells #[.int .i64 (r 0),.int .i64 (r 1),.int .i64 (r 2),.int .i64 (r 3),.int .i64 (r 4),.int .i64 (r 5),.int .i64 (r 6),.int .i64 (r 7),.int .i64 (r 8),.int .i64 (r 9),.int .i64 (r 10),.int .i64 (r 11)] 90 (0,0))
 ac:W.heap[x]?=some (.cells #[.int .i64 ((sumP S.Th S.En k (c+1) pre:Nat):Int)] 3 (0,0))
theorem put_cells {A:World} {l b:Nat} {o:Obj} (o':Obj) {vs:Array Value} {t:TypeId} (hl:A.heap[l]?=some o) (ho:o.isCells=false) (hb:A.heap[b]?=some (.cells vs t (0,0))):(A.putObj l o').heap[b]?=some (.cells vs t (0,0)) :=
 (World.putObj_heap_other (fun e=>by subst e;rw[hl] at hb;cases hb;cases ho)).trans hb
theorem CntP.below {S:SP} {w:World} {k c N x:Nat} {r:Nat→Int} {pre:List CP} {A B:World} (h:CntP S w k c N x r pre A) (hb:Below A.heap.size A B):CntP S w k c N x r pre B :=
 ⟨h.st.trans (Below.stays hb _) (fun _ e => .inl e),h.ms.below hb,keepq hb h.b0,keepq hb h.b1,keepq hb h.b2,keepq hb h.ac⟩
theorem Stays.put {M:Nat→Prop} {w A:World} (h:Stays M w A) (l:Nat) (o':Obj) (hl:w.heap.size≤l):Stays M w (A.putObj l o') :=
 ⟨h.os,h.tape,h.output,by have:=h.size;simpa using this,fun j hj hm=>(World.putObj_heap_other (by omega)).trans (h.block j hj hm)⟩
theorem CntP.put {S:SP} {w:World} {k c N x:Nat} {r:Nat→Int} {pre:List CP} {A:World} (h:CntP S w k c N x r pre A) (hmb:∀c,c<S.n→S.mb c<w.heap.size) {l:Nat} {o:Obj} (o':Obj) (hl:w.heap.size≤l) (hq:A.heap[l]?=some o) (ho:o.isCells=false):CntP S w k c N x r pre (A.putObj l o') :=
 ⟨h.st.put l o' hl,h.ms.same (fun c hc=>World.putObj_heap_other (by have:=hmb c hc;omega)),put_cells o' hq ho h.b0,put_cells o' hq ho h.b1,put_cells o' hq ho h.b2,put_cells o' hq ho h.ac⟩
def CntC (S:SP) (k c:Nat):Prop:=∀(r:Nat→Int) (N:Nat) (w:World),okR r→SB S w→SM S N w→N+bud k≤70368744177664 →
 Calls Tryz.prog 57 #[.pointer (some ⟨S.bs,0,none⟩),.int .i64 (c:Int),.agg #[.int .i64 (r 0),.int .i64 (r 1),.int .i64 (r 2),.int .i64 (r 3),.int .i64 (r 4),.int .i64 (r 5),.int .i64 (r 6),.int .i64 (r 7),.int .i64 (r 8),.int .i64 (r 9),.int .i64 (r 10),.int .i64 (r 11)]] w fun e w'=>e = .returned (.int .i64 ((cntF S.Th S.En k c r:Nat):Int))∧SM S (N+bud k) w'∧Stays (MbS S) w w'
theorem cnt_succ (S:SP) (k c:Nat) (hkc:c+(k+1)=S.n) (hn:S.n≤12) (IH:CntC S k (c+1)):CntC S (k+1) c:=by
 intro r N w hr hB hM hN
 obtain ⟨g,hMV,hsound⟩:=hM.ok c (by omega)
 obtain ⟨bK,oK,haK,hbK,hcK⟩:=hB.kn c (by omega)
 have hcm:(c:Int)<(S.n:Int):=by omega
 have hk12:k≤12:=by omega
 have hne:((c:Int)==(S.n:Int))=false:=by simp;omega
 have HIH:=Lib.hid IH
 have HB:=Lib.hid hB
 have HM:=Lib.hid hM
 have HN:=Lib.hid hN
 have HR:=Lib.hid hr
 have HKY:=Lib.hid (key_mk hr)
 have HSO:=Lib.hid hsound
 have HKC:=Lib.hid hkc
 have hsy:=hM.inj
 have HCN:Hid (∀v,g (mk12 r hr)=some v→v = .int .i64 ((cntF S.Th S.En (k+1) c r:Nat):Int)):=fun v e=>by
  rw[hsound _ v e,show S.n - c=k+1 by omega,cntF_congr hB.lnT hB.lnE (k+1) c (r12_mk hr)]
 have hcN:cntF S.Th S.En (k+1) c r≤26 ^ 12:=Nat.le_trans (cntF_le _ _ _ _ _) (Nat.pow_le_pow_right (by decide) (by omega))
 have HCB:=Lib.hid hcN
 generalize hky:mk12 r hr=ky at HKY HCN
 have HKE:=Lib.hid hky
 clear IH hB hM hN hsound hkc hsy hcN hky
 refine calls_of_marks Tryz.func57 rfl ?_
 simp only[Tryz.ntmps57,List.size_toArray,List.length_cons,List.length_nil,Nat.reduceAdd,Nat.reduceSub,Array.replicate_succ,Array.replicate_zero,List.push_toArray,List.append_toArray,List.nil_append,List.cons_append]
 go_upto_region 1 with fail
 have fsz:(((w.alloc (.cells #[.pointer (some ⟨S.bs,0,none⟩)] 93)).alloc (.cells #[.int .i64 (c:Int)] 3)).alloc (.cells #[.int .i64 (r 0),.int .i64 (r 1),.int .i64 (r 2),.int .i64 (r 3),.int .i64 (r 4),.int .i64 (r 5),.int .i64 (r 6),.int .i64 (r 7),.int .i64 (r 8),.int .i64 (r 9),.int .i64 (r 10),.int .i64 (r 11)] 90)).heap.size=w.heap.size+3:=by simp only[World.size_alloc] <;> omega
 have fB:Below w.heap.size w (((w.alloc (.cells #[.pointer (some ⟨S.bs,0,none⟩)] 93)).alloc (.cells #[.int .i64 (c:Int)] 3)).alloc (.cells #[.int .i64 (r 0),.int .i64 (r 1),.int .i64 (r 2),.int .i64 (r 3),.int .i64 (r 4),.int .i64 (r 5),.int .i64 (r 6),.int .i64 (r 7),.int .i64 (r 8),.int .i64 (r 9),.int .i64 (r 10),.int .i64 (r 11)] 90)):=(((Below.refl _ _).alloc (Nat.le_refl _) _).alloc (by simp only[World.size_alloc];omega) _).alloc (by simp only[World.size_alloc];omega) _
 have fq0:(((w.alloc (.cells #[.pointer (some ⟨S.bs,0,none⟩)] 93)).alloc (.cells #[.int .i64 (c:Int)] 3)).alloc (.cells #[.int .i64 (r 0),.int .i64 (r 1),.int .i64 (r 2),.int .i64 (r 3),.int .i64 (r 4),.int .i64 (r 5),.int .i64 (r 6),.int .i64 (r 7),.int .i64 (r 8),.int .i64 (r 9),.int .i64 (r 10),.int .i64 (r 11)] 90)).heap[w.heap.size]?=some (.cells #[.pointer (some ⟨S.bs,0,none⟩)] 93 (0,0)):=by have h:=World.alloc_heap_new w (.cells #[.pointer (some ⟨S.bs,0,none⟩)] 93);exact (Below.heap_alloc _ _ _ (by simp only[World.size_alloc];omega)).trans ((Below.heap_alloc _ _ _ (by simp only[World.size_alloc];omega)).trans (h))
 have fq1:(((w.alloc (.cells #[.pointer (some ⟨S.bs,0,none⟩)] 93)).alloc (.cells #[.int .i64 (c:Int)] 3)).alloc (.cells #[.int .i64 (r 0),.int .i64 (r 1),.int .i64 (r 2),.int .i64 (r 3),.int .i64 (r 4),.int .i64 (r 5),.int .i64 (r 6),.int .i64 (r 7),.int .i64 (r 8),.int .i64 (r 9),.int .i64 (r 10),.int .i64 (r 11)] 90)).heap[w.heap.size+1]?=some (.cells #[.int .i64 (c:Int)] 3 (0,0)):=by have h:=World.alloc_heap_new (w.alloc (.cells #[.pointer (some ⟨S.bs,0,none⟩)] 93)) (.cells #[.int .i64 (c:Int)] 3);simp only[World.size_alloc] at h;exact (Below.heap_alloc _ _ _ (by simp only[World.size_alloc];omega)).trans (h)
 have fq2:(((w.alloc (.cells #[.pointer (some ⟨S.bs,0,none⟩)] 93)).alloc (.cells #[.int .i64 (c:Int)] 3)).alloc (.cells #[.int .i64 (r 0),.int .i64 (r 1),.int .i64 (r 2),.int .i64 (r 3),.int .i64 (r 4),.int .i64 (r 5),.int .i64 (r 6),.int .i64 (r 7),.int .i64 (r 8),.int .i64 (r 9),.int .i64 (r 10),.int .i64 (r 11)] 90)).heap[w.heap.size+1+1]?=some (.cells #[.int .i64 (r 0),.int .i64 (r 1),.int .i64 (r 2),.int .i64 (r 3),.int .i64 (r 4),.int .i64 (r 5),.int .i64 (r 6),.int .i64 (r 7),.int .i64 (r 8),.int .i64 (r 9),.int .i64 (r 10),.int .i64 (r 11)] 90 (0,0)):=by have h:=World.alloc_heap_new ((w.alloc (.cells #[.pointer (some ⟨S.bs,0,none⟩)] 93)).alloc (.cells #[.int .i64 (c:Int)] 3)) (.cells #[.int .i64 (r 0),.int .i64 (r 1),.int .i64 (r 2),.int .i64 (r 3),.int .i64 (r 4),.int .i64 (r 5),.int .i64 (r 6),.int .i64 (r 7),.int .i64 (r 8),.int .i64 (r 9),.int .i64 (r 10),.int .i64 (r 11)] 90);simp only[World.size_alloc] at h;exact h
 generalize (((w.alloc (.cells #[.pointer (some ⟨S.bs,0,none⟩)] 93)).alloc (.cells #[.int .i64 (c:Int)] 3)).alloc (.cells #[.int .i64 (r 0),.int .i64 (r 1),.int .i64 (r 2),.int .i64 (r 3),.int .i64 (r 4),.int .i64 (r 5),.int .i64 (r 6),.int .i64 (r 7),.int .i64 (r 8),.int .i64 (r 9),.int .i64 (r 10),.int .i64 (r 11)] 90))=W0 at fsz fB fq0 fq1 fq2 ⊢
 have FB:=Lib.hid fB
 have Q0:=Lib.hid fq0
 have Q1:=Lib.hid fq1
 have Q2:=Lib.hid fq2
 have HFS:=Lib.hid fsz
 have hsq:=keepq fB HB.out.sq
 have c0:W0.cell? ⟨w.heap.size,0,none⟩=some (.pointer (some ⟨S.bs,0,none⟩)):=q_cell fq0 0
 have l0:=q_lt fq0
 have c1:W0.cell? ⟨w.heap.size+1,0,none⟩=some (.int .i64 (c:Int)):=q_cell fq1 0
 have l1:=q_lt fq1
 have e0:W0.cell? ⟨S.bs,0,none⟩=some (.slice S.aT S.n S.cT):=q_cell hsq 0
 have el:=q_lt hsq
 have HSQ:=Lib.hid hsq
 clear fB fq0 fq1 fq2 fsz hsq
 refine wp_region_S (fun w'=>∃u,w'=over (W0) u) [] [(0,0),(0,1),(0,2),(0,3),(0,4),(0,5),(0,6)] (by kernel_rfl) (by kernel_rfl) (by exact ⟨_,below_over (by repeat (first|assumption|exact Below.refl _ _|refine keep_drew ?_|refine keep_alloc ?_ _|refine keep_trans ?_ (by assumption)))⟩) ?_
 dsimp only[pickOps,nthOp]
 repeat (first|(refine wpS_skip rfl (fun K hK=>?_);go_big_quiet_op;refine hK _ ?_;clear hK K)|(refine wpS_quiet rfl rfl (fun K hK=>?_);go_big_quiet_op;refine hK _ ?_;clear hK K))
 refine wpS_end ?_
 have HB1:Hid (Below W0.heap.size W0 W0.drew):=keep_drew (Below.refl W0.heap.size W0)
 generalize W0.drew=w1 at HB1 ⊢
 clear c0 l0 c1 l1 e0 el
 have hq0:=keepq HB1.out Q0.out
 have hq1:=keepq HB1.out Q1.out
 have hq2:=keepq HB1.out Q2.out
 have hsq:=keepq HB1.out HSQ.out
 have c0:w1.cell? ⟨w.heap.size,0,none⟩=some (.pointer (some ⟨S.bs,0,none⟩)):=q_cell hq0 0
 have l0:=q_lt hq0
 have c1:w1.cell? ⟨w.heap.size+1,0,none⟩=some (.int .i64 (c:Int)):=q_cell hq1 0
 have l1:=q_lt hq1
 obtain ⟨g0,g1,g2,g3,g4,g5,g6,g7,g8,g9,g10,g11,gl⟩:=c12_of hq2
 have e3:w1.cell? ⟨S.bs,3,none⟩=some (.slice S.aK S.n S.cK):=q_cell hsq 3
 rw[haK] at e3
 have el:=q_lt hsq
 have hbw:Below w.heap.size w w1:=keep_trans FB.out HB1.out
 have k0:=(hbw.cell (p:=⟨bK,oK+c,none⟩) hbK).trans hcK
 have kl:=Nat.lt_of_lt_of_le hbK hbw.size
 have HMV:=Lib.hid (hMV.mono hbw hMV.lt)
 have HBW:=Lib.hid hbw
 have HQ0:=Lib.hid hq0
 have HQ1:=Lib.hid hq1
 have HQ2:=Lib.hid hq2
 have HSQ1:=Lib.hid hsq
 clear hq0 hq1 hq2 hsq hbw hMV hcK hbK
 obtain ⟨gv,hgv⟩:∃gv,g ky=gv:=⟨_,rfl⟩
 have HGV:=Lib.hid hgv
 clear hgv
 cases gv with
 | some v =>
  have HV:=Lib.hid (HCN.out v HGV.out)
  go_wp2_with fail
  refine wp_region_S (fun w'=>∃u,w'=over (w1) u) [13] [(0,0),(0,1),(0,2),(0,3),(0,4),(0,5),(0,6),(0,7),(1,8),(0,9),(0,10),(0,11),(1,12),(2,13)] (by kernel_rfl) (by kernel_rfl) (by exact ⟨_,below_over (by repeat (first|assumption|exact Below.refl _ _|refine keep_drew ?_|refine keep_alloc ?_ _|refine keep_trans ?_ (by assumption)))⟩) ?_
  dsimp only[pickOps,nthOp]
  repeat (first|(refine wpS_skip rfl (fun K hK=>?_);go_big_quiet_op;refine hK _ ?_;clear hK K)|(refine wpS_quiet rfl rfl (fun K hK=>?_);go_big_quiet_op;refine hK _ ?_;clear hK K)|(refine wpS_loud ?_;go_wp2_with (first|(refine wpList_lookV _ rfl _ _ 115 rfl 90 3 r12Keyed Tryz.underlying115 (.int .i64 0) (zeroIntC _) kap12 (S.mb c) N g rfl (HMV.out.mono (keep_drew (Below.refl _ _)) HMV.out.lt) _ ky rfl HKY.out ?_;rw[HGV.out])|fail);refine ⟨?_,?_⟩;focus (exact ⟨_,below_over (by repeat (first|assumption|exact Below.refl _ _|refine keep_drew ?_|refine keep_alloc ?_ _|refine keep_trans ?_ (by assumption)))⟩)))
  refine wpS_late _ _ _ rfl ?_
  dsimp only[List.map]
  go_wp2_with (first|(refine wpList_lookV _ rfl _ _ 115 rfl 90 3 r12Keyed Tryz.underlying115 (.int .i64 0) (zeroIntC _) kap12 (S.mb c) N g rfl (HMV.out.mono (keep_drew (Below.refl _ _)) HMV.out.lt) _ ky rfl HKY.out ?_;rw[HGV.out])|fail)
  refine NoPanic.normal ?_
  go_wp2_with fail
  have hb:=keep_trans HBW.out (keep_drew (Below.refl w1.heap.size w1))
  refine marks_none (v:=v) ?_ rfl ⟨by rw[HV.out],(HM.out.below hb).more (by omega),Below.stays hb _⟩
  simp[results,Tryz.f57,go_sem]
 | none =>
  go_wp2_with fail
  refine wp_region_S (fun w'=>∃u,w'=over (w1) u) [13] [(0,0),(0,1),(0,2),(0,3),(0,4),(0,5),(0,6),(0,7),(1,8),(0,9),(0,10),(0,11),(1,12),(2,13)] (by kernel_rfl) (by kernel_rfl) (by exact ⟨_,below_over (by repeat (first|assumption|exact Below.refl _ _|refine keep_drew ?_|refine keep_alloc ?_ _|refine keep_trans ?_ (by assumption)))⟩) ?_
  dsimp only[pickOps,nthOp]
  repeat (first|(refine wpS_skip rfl (fun K hK=>?_);go_big_quiet_op;refine hK _ ?_;clear hK K)|(refine wpS_quiet rfl rfl (fun K hK=>?_);go_big_quiet_op;refine hK _ ?_;clear hK K)|(refine wpS_loud ?_;go_wp2_with (first|(refine wpList_lookV _ rfl _ _ 115 rfl 90 3 r12Keyed Tryz.underlying115 (.int .i64 0) (zeroIntC _) kap12 (S.mb c) N g rfl (HMV.out.mono (keep_drew (Below.refl _ _)) HMV.out.lt) _ ky rfl HKY.out ?_;rw[HGV.out])|fail);refine ⟨?_,?_⟩;focus (exact ⟨_,below_over (by repeat (first|assumption|exact Below.refl _ _|refine keep_drew ?_|refine keep_alloc ?_ _|refine keep_trans ?_ (by assumption)))⟩)))
  refine wpS_late _ _ _ rfl ?_
  dsimp only[List.map]
  go_wp2_with (first|(refine wpList_lookV _ rfl _ _ 115 rfl 90 3 r12Keyed Tryz.underlying115 (.int .i64 0) (zeroIntC _) kap12 (S.mb c) N g rfl (HMV.out.mono (keep_drew (Below.refl _ _)) HMV.out.lt) _ ky rfl HKY.out ?_;rw[HGV.out])|fail)
  refine NoPanic.normal ?_
  have HB2:Hid (Below w.heap.size w w1.drew):=keep_trans HBW.out (keep_drew (Below.refl w1.heap.size w1))
  have hkd:Below w1.heap.size w1 w1.drew:=keep_drew (Below.refl w1.heap.size w1)
  have hq0:=keepq hkd HQ0.out
  have hq1:=keepq hkd HQ1.out
  have hq2:=keepq hkd HQ2.out
  have hsz:w.heap.size+3≤w1.drew.heap.size:=by have h1:=HFS.out;have h2:=HB1.out.size;have h3:=hkd.size;omega
  generalize w1.drew=w2 at HB2 hq0 hq1 hq2 hsz ⊢
  clear c0 l0 c1 l1 g0 g1 g2 g3 g4 g5 g6 g7 g8 g9 g10 g11 gl e3 el k0 kl HMV HBW HQ0 HQ1 HQ2 HSQ1 HB1 HSQ Q0 Q1 Q2 hkd FB HCN
  go_upto_region 7 with fail
  have ysz:(w2.alloc (.cells #[.int .i64 0] 3)).heap.size=w2.heap.size+1:=by simp only[World.size_alloc]
  have yB:Below w2.heap.size w2 (w2.alloc (.cells #[.int .i64 0] 3)):=(Below.refl _ _).alloc (Nat.le_refl _) _
  have yq0:(w2.alloc (.cells #[.int .i64 0] 3)).heap[w2.heap.size]?=some (.cells #[.int .i64 0] 3 (0,0)):=by have h:=World.alloc_heap_new w2 (.cells #[.int .i64 0] 3);exact h
  generalize (w2.alloc (.cells #[.int .i64 0] 3))=W3 at ysz yB yq0 ⊢
  have hy0:=keepq yB hq0
  have hy1:=keepq yB hq1
  have hy2:=keepq yB hq2
  have c0:W3.cell? ⟨w.heap.size,0,none⟩=some (.pointer (some ⟨S.bs,0,none⟩)):=q_cell hy0 0
  have l0:=q_lt hy0
  have c1:W3.cell? ⟨w.heap.size+1,0,none⟩=some (.int .i64 (c:Int)):=q_cell hy1 0
  have l1:=q_lt hy1
  obtain ⟨g0,g1,g2,g3,g4,g5,g6,g7,g8,g9,g10,g11,gl⟩:=c12_of hy2
  have HY0:=Lib.hid hy0
  have HY1:=Lib.hid hy1
  have HY2:=Lib.hid hy2
  have HYQ:=Lib.hid yq0
  have HYB:=Lib.hid (keep_trans HB2.out yB)
  have hys:W3.heap.size=w2.heap.size+1:=ysz
  have HYS:=Lib.hid hys
  clear hq0 hq1 hq2 hy0 hy1 hy2 yq0 yB ysz hys HB2
  have HCH:=Lib.hid (choices_c S.bs c r W3)
  obtain ⟨x,hx⟩:∃x,w2.heap.size=x:=⟨_,rfl⟩
  rw[hx] at HYQ hsz HYS ⊢
  clear hx
  go_wp2_with (first|(go_at_call 70;refine HCH.out.mono ?_;rintro _ w4 ⟨rfl,p0,p1,p2,hb4⟩)|fail)
  have hb3:W3.heap.size=x+1:=HYS.out
  have hb04:Below w.heap.size w w4:=keep_trans HYB.out hb4
  have hcc:c<S.n:=by have:=HKC.out;omega
  have HMB:Hid (∀c,c<S.n→S.mb c<w.heap.size):=fun _ hc=>HM.out.lt hc
  have hI0:CntP S w k c N x r [] w4:=⟨Below.stays hb04 _,(HM.out.below hb04).more (by omega),keepq hb4 HY0.out,keepq hb4 HY1.out,keepq hb4 HY2.out,keepq hb4 HYQ.out⟩
  have h4s:w.heap.size≤w4.heap.size:=hb04.size
  have hseq:=ch_seq S w w4 W3.heap.size x c r HB.out (CKept.below hb04) hcc (by omega) (by omega) p0 p1 p2 HR.out
  generalize W3.heap.size=b3 at hseq hb3 ⊢
  clear c0 l0 c1 l1 g0 g1 g2 g3 g4 g5 g6 g7 g8 g9 g10 g11 gl p0 p1 p2 hb4 hb04
  refine wp_rangeFunc_B (gf:=80) (lb:=#[.pointer (some ⟨b3,0,none⟩),.pointer (some ⟨b3+1,0,none⟩),.pointer (some ⟨b3+2,0,none⟩)]) rfl (enters_of Tryz.func80 (by kernel_rfl) rfl) hseq (fun h k=>h.trans k) (fun W l o o' _ h ho=>KpX.put o' h ho) (fun A B h=>KpX.below h) (fun _=>rfl)
   (CntP S w k c N x r) (fun s A B h hb=>h.below hb) (fun s A l o o' h hl hq ho=>h.put HMB.out o' (by omega) hq ho) hI0
   (fun p W act Wa=>act={ tmps:=#[.pointer (some ⟨S.bs,0,none⟩),.int .i64 (c:Int),.agg #[.int .i64 (r 0),.int .i64 (r 1),.int .i64 (r 2),.int .i64 (r 3),.int .i64 (r 4),.int .i64 (r 5),.int .i64 (r 6),.int .i64 (r 7),.int .i64 (r 8),.int .i64 (r 9),.int .i64 (r 10),.int .i64 (r 11)],.pointer (some ⟨w.heap.size,0,none⟩),.pointer (some ⟨w.heap.size+1,0,none⟩),.pointer (some ⟨w.heap.size+1+1,0,none⟩),.int .i64 0,.int .i64 0,.bool false,.pointer (some ⟨x,0,none⟩),undef,.pointer (some ⟨W.heap.size,0,none⟩),
   .int .i64 (c:Int),.pointer (some ⟨S.bs,0,none⟩),.pointer (some ⟨S.bs,0,none⟩),.pointer (some ⟨S.bs,0,none⟩),.slice S.aT S.n S.cT,.int .i64 (S.n:Int),.bool false,.tuple #[.int .i64 0,.bool false],.pointer (some ⟨S.bs,0,none⟩),.pointer (some ⟨S.bs,0,none⟩),.pointer (some ⟨S.bs,3,none⟩),.slice (some ⟨bK,oK,none⟩) S.n S.cK,.int .i64 (c:Int),.pointer (some ⟨bK,oK+c,none⟩),.map (some (S.mb c)),
   .agg #[.int .i64 (r 0),.int .i64 (r 1),.int .i64 (r 2),.int .i64 (r 3),.int .i64 (r 4),.int .i64 (r 5),.int .i64 (r 6),.int .i64 (r 7),.int .i64 (r 8),.int .i64 (r 9),.int .i64 (r 10),.int .i64 (r 11)],.tuple #[.int .i64 0,.bool false],.int .i64 0,.bool false,.bool false,undef,.pointer (some ⟨S.bs,0,none⟩),.int .i64 (c:Int),.agg #[.int .i64 (r 0),.int .i64 (r 1),.int .i64 (r 2),.int .i64 (r 3),.int .i64 (r 4),.int .i64 (r 5),.int .i64 (r 6),.int .i64 (r 7),.int .i64 (r 8),.int .i64 (r 9),.int .i64 (r 10),.int .i64 (r 11)],.func (.func 80) #[] #[.pointer (some ⟨b3,0,none⟩),.pointer (some ⟨b3+1,0,none⟩),.pointer (some ⟨b3+2,0,none⟩)],.int .i64 (p.1:Int),.agg #[.int .i64 (p.2 0),.int .i64 (p.2 1),.int .i64 (p.2 2),.int .i64 (p.2 3),.int .i64 (p.2 4),.int .i64 (p.2 5),.int .i64 (p.2 6),.int .i64 (p.2 7),.int .i64 (p.2 8),.int .i64 (p.2 9),.int .i64 (p.2 10),.int .i64 (p.2 11)],undef,undef,undef,undef,undef,undef,undef,undef,undef,undef,undef,undef,undef,undef,undef,undef,undef],defers:=[] }∧Wa.heap[W.heap.size]?=some (.cells #[.int .i64 (p.2 0),.int .i64 (p.2 1),.int .i64 (p.2 2),.int .i64 (p.2 3),.int .i64 (p.2 4),.int .i64 (p.2 5),.int .i64 (p.2 6),.int .i64 (p.2 7),.int .i64 (p.2 8),.int .i64 (p.2 9),.int .i64 (p.2 10),.int .i64 (p.2 11)] 90 (0,0))) ?assign ?body ?done
  case assign =>
   rintro l9 p W K hK
   clear hb3
   dsimp only[encP]
   gi_wp2
   refine hK _ _ ((Below.refl _ _).alloc (Nat.le_refl _) _) ⟨?_,World.alloc_heap_new _ _⟩
   rfl
  case body =>
   rintro l9 pre p W1 Wa W act hI ⟨rfl,hqx⟩ hw1 hcl hpre
   dsimp only
   have hqn:=hcl _ _ hqx rfl
   have hW1b:w.heap.size≤W1.heap.size:=Nat.le_trans h4s hw1
   have hmem:p∈chA (S.Th c) (S.En c) r:=List.IsPrefix.subset hpre (List.mem_append_right _ (List.mem_singleton.2 rfl))
   have hrp:okR p.2:=(chF_ok HR.out 26 0 p hmem).1
   have hlen:(pre++[p]).length≤26:=Nat.le_trans hpre.length_le (chF_len _ _ _ 26 0)
   rw[List.length_append,List.length_singleton] at hlen
   have HPM:=Lib.hid hmem
   have hckW:=HM.out.ck hI.st
   have hB5:=HB.out.ck hckW
   obtain ⟨c0,l0⟩:W.cell? ⟨w.heap.size,0,none⟩=some (.pointer (some ⟨S.bs,0,none⟩))∧isC W w.heap.size:=⟨q_cell hI.b0 0,isC_of hI.b0⟩
   obtain ⟨c1,l1⟩:W.cell? ⟨w.heap.size+1,0,none⟩=some (.int .i64 (c:Int))∧isC W (w.heap.size+1):=⟨q_cell hI.b1 0,isC_of hI.b1⟩
   obtain ⟨a0,al⟩:W.cell? ⟨x,0,none⟩=some (.int .i64 ((sumP S.Th S.En k (c+1) pre:Nat):Int))∧isC W x:=⟨q_cell hI.ac 0,isC_of hI.ac⟩
   obtain ⟨g0,g1,g2,g3,g4,g5,g6,g7,g8,g9,g10,g11,_⟩:=c12_of hqn
   have gl:=isC_of hqn
   have HI:=Lib.hid hI
   have hdW:Below W.heap.size W W.drew:=keep_drew (Below.refl W.heap.size W)
   have hbud:pre.length*bud k+bud k≤26*bud k:=by
    have:=Nat.mul_le_mul_right (bud k) hlen
    rw[Nat.add_mul,Nat.one_mul] at this
    exact this
   have HBU:=Lib.hid hbud
   have hca:=(HIH.out p.2 (N+pre.length*bud k) W.drew hrp (hB5.ck (CKept.below hdW)) (hI.ms.below hdW) (by
    have h1:=HN.out
    rw[show bud (k+1)=26*bud k+1 from rfl] at h1
    omega))
   rw[show (((c+1:Nat)):Int)=(c:Int)+1 from rfl] at hca
   have HCA:=Lib.hid hca
   clear hca
   have hsum:sumP S.Th S.En k (c+1) pre≤pre.length*26 ^ 12:=by
    have:=sum_le_mul (l:=pre.map fun p=>cntF S.Th S.En k (c+1) p.2) (b:=26 ^ 12) (fun y hy=>by
     obtain ⟨q,_,rfl⟩:=List.mem_map.1 hy
     exact Nat.le_trans (cntF_le _ _ _ _ _) (Nat.pow_le_pow_right (by decide) (by omega)))
    rwa [List.length_map] at this
   have hcn:cntF S.Th S.En k (c+1) p.2≤26 ^ 12:=Nat.le_trans (cntF_le _ _ _ _ _) (Nat.pow_le_pow_right (by decide) (by omega))
   have HSN:=Lib.hid (sumP_snoc S.Th S.En k (c+1) pre p)
   have hs2:sumP S.Th S.En k (c+1) pre≤25*26 ^ 12:=Nat.le_trans hsum (Nat.mul_le_mul_right _ (by omega))
   have e26:(26:Nat) ^ 12=95428956661682176:=by decide
   rw[e26] at hs2 hcn
   have HCK:=Lib.hid (hI.ms.ck (Stays.refl (MbS S) W))
   generalize sumP S.Th S.En k (c+1) pre=sm at a0 hs2 HSN
   generalize cntF S.Th S.En k (c+1) p.2=cn at HCA hcn HSN
   clear hsum e26 hbud hI hqn hqx hcl hpre hmem hckW hB5 hdW
   gi_wp2_with fail
   refine wpIn_region_S (fun w'=>∃u,w'=overC (W) u) [7] [(0,0),(0,1),(0,2),(0,3),(0,4),(1,5),(0,6),(2,7)] (by kernel_rfl) (by kernel_rfl) (by kernel_rfl) (fun _ _ h=>h) (by first|(with_reducible exact ⟨_,ck_over (CKept.below (keep_drew (Below.refl W.heap.size W)))⟩)|(with_reducible exact ⟨_,ck_over hck5⟩)) ?_
   dsimp only[pickOps,nthOp]
   repeat (first|(refine wpS_skip rfl (fun K hK=>?_);go_big_quiet_op;refine hK _ ?_;clear hK K)|(refine wpS_quiet rfl rfl (fun K hK=>?_);go_big_quiet_op;refine hK _ ?_;clear hK K)|(refine wpS_loud ?_;go_wp2_with (first|(go_at_call 57;refine HCA.out.mono ?_;rintro _ w5 ⟨rfl,hM5,hst5⟩;have hck5:CKept W w5:=(CKept.below (keep_drew (Below.refl W.heap.size W))).trans ((HI.out.ms.below (keep_drew (Below.refl W.heap.size W))).ck hst5);have hx5:=hck5.2 x _ HI.out.ac rfl;have f5:=q_free hx5 0;have l5:=q_lt hx5;obtain ⟨v5,d5⟩:∃v,w5.cell? ⟨x,0,none⟩=some v:=⟨_,q_cell hx5 0⟩)|fail);refine ⟨?_,?_⟩;focus (first|(with_reducible exact ⟨_,ck_over (CKept.below (keep_drew (Below.refl W.heap.size W)))⟩)|(with_reducible exact ⟨_,ck_over hck5⟩))))
   refine wpS_late _ _ _ rfl ?_
   dsimp only[List.map]
   go_wp2_with (first|(go_at_call 57;refine HCA.out.mono ?_;rintro _ w5 ⟨rfl,hM5,hst5⟩;have hck5:CKept W w5:=(CKept.below (keep_drew (Below.refl W.heap.size W))).trans ((HI.out.ms.below (keep_drew (Below.refl W.heap.size W))).ck hst5);have hx5:=hck5.2 x _ HI.out.ac rfl;have f5:=q_free hx5 0;have l5:=q_lt hx5;obtain ⟨v5,d5⟩:∃v,w5.cell? ⟨x,0,none⟩=some v:=⟨_,q_cell hx5 0⟩)|fail)
   refine NoPanic.normal ?_
   have hI:=HI.out
   have hst:Stays (MbS S) W w5:=(Below.stays (keep_drew (Below.refl W.heap.size W)) (MbS S)).trans hst5 (fun _ e => .inl e)
   have hnx:∀b,b≠x→(w5.setCell ⟨x,0,none⟩ (.int .i64 ((sm:Int)+(cn:Int)))).heap[b]?=w5.heap[b]?:=fun b hb=>Below.heap_setCell _ _ _ _ hb
   have hzs:(w5.setCell ⟨x,0,none⟩ (.int .i64 ((sm:Int)+(cn:Int)))).heap.size=w5.heap.size:=by simp[World.setCell]
   have hk5:∀b vs t,W.heap[b]?=some (.cells vs t (0,0))→b≠x→(w5.setCell ⟨x,0,none⟩ (.int .i64 ((sm:Int)+(cn:Int)))).heap[b]?=some (.cells vs t (0,0)):=fun b vs t hb hx=>(hnx b hx).trans (hck5.2 b _ hb rfl)
   refine ⟨⟨by rw[hzs];exact hst.size,fun j o hj ho hc=>?_⟩,⟨by rw[hzs];exact hst.size,fun j o hj ho hjx=>(hnx j hjx).trans (hck5.2 j o hj ho)⟩,⟨?_,?_,hk5 _ _ _ hI.b0 (by omega),hk5 _ _ _ hI.b1 (by omega),hk5 _ _ _ hI.b2 (by omega),?_⟩⟩
   ·have hjl:=q_lt ho
    have hjx:j≠x:=fun e=>by subst e;rw[hI.ac] at ho;cases ho;cases hc
    refine (hnx j hjx).trans ((hst.block j hjl (fun ⟨c',hc',e⟩=>?_)).trans ho)
    have:=HMB.out c' hc'
    omega
   ·exact (hI.st.trans hst (fun _ e => .inl e)).trans (Stays.setCell (S:=fun j=>j=x) w5 (p:=⟨x,0,none⟩) rfl _) (fun j e => .inr (by have e3:j=x:=e;omega))
   ·refine (hM5.same (fun c' hc'=>hnx _ (by have:=HMB.out c' hc';omega))).more ?_
    rw[List.length_append,List.length_singleton,Nat.add_mul,Nat.one_mul]
    omega
   ·rw[HSN.out]
    exact q_set (i:=0) hx5 (.int .i64 ((sm:Int)+(cn:Int)))
  case done =>
   rintro D xs W hD rfl hI hK
   have hlen:(chA (S.Th c) (S.En c) r).length≤26:=chF_len _ _ _ 26 0
   have hbud:=Nat.mul_le_mul_right (bud k) hlen
   have HT:Hid (sumP S.Th S.En k (c+1) (chA (S.Th c) (S.En c) r)=cntF S.Th S.En (k+1) c r):=rfl
   have hck:=HM.out.ck hI.st
   obtain ⟨g2,hMV2,hso2⟩:=hI.ms.ok c hcc
   have hsq:=hck.2 _ _ HB.out.sq rfl
   obtain ⟨bK',oK',haK',hbK',hcK'⟩:=HB.out.kn c hcc
   rw[haK] at haK'
   cases haK'
   have k0:=ck_cell hck hcK'
   have kl:=Nat.lt_of_lt_of_le hbK' hck.1
   have e3:W.cell? ⟨S.bs,3,none⟩=some (.slice S.aK S.n S.cK):=q_cell hsq 3
   rw[haK] at e3
   have el:=q_lt hsq
   have c0:W.cell? ⟨w.heap.size,0,none⟩=some (.pointer (some ⟨S.bs,0,none⟩)):=q_cell hI.b0 0
   have l0:=q_lt hI.b0
   have c1:W.cell? ⟨w.heap.size+1,0,none⟩=some (.int .i64 (c:Int)):=q_cell hI.b1 0
   have l1:=q_lt hI.b1
   obtain ⟨g0,g1,g2',g3,g4,g5,g6,g7,g8,g9,g10,g11,gl⟩:=c12_of hI.b2
   have a0:W.cell? ⟨x,0,none⟩=some (.int .i64 ((cntF S.Th S.En (k+1) c r:Nat):Int)):=q_cell hI.ac 0
   have al:=q_lt hI.ac
   have HI:=Lib.hid hI
   have HK:=Lib.hid hK
   have HMV2:=Lib.hid hMV2
   have HSO2:=Lib.hid hso2
   have HBD:=Lib.hid hbud
   have hN2:N+(chA (S.Th c) (S.En c) r).length*bud k<70368744177664:=by
    have h1:=HN.out
    rw[show bud (k+1)=26*bud k+1 from rfl] at h1
    omega
   have HCB2:=HCB.out
   have e26:(26:Nat) ^ 12=95428956661682176:=by decide
   rw[e26] at HCB2
   have HCHL:Hid (N+(chA (S.Th c) (S.En c) r).length*bud k≤N+bud (k+1)):=by
    have h1:=HBD.out
    unfold Hid
    rw[show bud (k+1)=26*bud k+1 from rfl]
    omega
   generalize (chA (S.Th c) (S.En c) r).length*bud k=NB at HMV2 hN2 HBD
   generalize hcn:cntF S.Th S.En (k+1) c r=cn at a0 HCB2
   have HCN:=Lib.hid hcn
   clear e26 hcn hck hMV2 hso2 hsq hcK' hbK' hI hK hbud hlen hseq hI0 HT
   go_wp2_with fail
   refine wp_region_S (fun w'=>∃u,w'=over (W) u) [9] [(0,0),(0,1),(0,2),(0,3),(0,4),(0,5),(0,6),(0,7),(0,8),(2,9)] (by kernel_rfl) (by kernel_rfl) (by exact ⟨_,below_over (by repeat (first|assumption|exact Below.refl _ _|refine keep_drew ?_|refine keep_alloc ?_ _|refine keep_trans ?_ (by assumption)))⟩) ?_
   dsimp only[pickOps,nthOp]
   repeat (first|(refine wpS_skip rfl (fun K hK=>?_);go_big_quiet_op;refine hK _ ?_;clear hK K)|(refine wpS_quiet rfl rfl (fun K hK=>?_);go_big_quiet_op;refine hK _ ?_;clear hK K))
   refine wpS_late _ _ _ rfl ?_
   dsimp only[List.map]
   go_wp2_with (first|(refine wpList_putV _ rfl _ _ _ 115 rfl 90 3 r12Keyed Tryz.underlying115 kap12 inj12 (S.mb c) (N+NB) g2 rfl (HMV2.out.mono (keep_drew (Below.refl _ _)) HMV2.out.lt) (by unfold maxLen;omega) _ (.int .i64 (cn:Int)) ky rfl rfl HKY.out ?_;intro w6 hM6 hg6)|fail)
   refine NoPanic.normal ?_
   have hst6:Stays (fun j=>j=S.mb c) W w6:=(Below.stays (keep_drew (Below.refl W.heap.size W)) _).trans (Stays.grown hg6 (fun j e=>by cases e;rfl)) (fun _ e => .inl e)
   have hmc:=HMB.out c hcc
   have hq6:=hst6.q HI.out.ac (show x≠S.mb c by omega)
   have hK6:w6.heap[D]?=some (.deferred (some [])):=(hst6.block D (q_lt HK.out) (fun e=>by have e3:D=S.mb c:=e;omega)).trans HK.out
   have b0:w6.cell? ⟨x,0,none⟩=some (.int .i64 (cn:Int)):=by
    rw[← HCN.out]
    exact q_cell hq6 0
   have bl:=q_lt hq6
   have hlt:=HKC.out
   have hsm:SM S (N+bud (k+1)) w6:=by
    have hNB:N+NB+1≤N+bud (k+1):=by
     have:=HBD.out
     rw[show bud (k+1)=26*bud k+1 from rfl]
     omega
    refine ⟨fun c' hc'=>?_,HM.out.inj⟩
    by_cases e:c'=c
    ·subst e
     refine ⟨_,hM6.more hNB,fun K v hv=>?_⟩
     by_cases e2:K=ky
     ·subst e2
      rw[if_pos rfl] at hv
      cases hv
      rw[← HCN.out,show S.n - c'=k+1 by omega,← HKE.out,cntF_congr HB.out.lnT HB.out.lnE (k+1) c' (r12_mk hr)]
     ·rw[if_neg e2] at hv
      exact HSO2.out K v hv
    ·obtain ⟨g',h1,h2⟩:=HI.out.ms.ok c' hc'
     have hne:S.mb c'≠S.mb c:=fun e2=>e (HM.out.inj c' c hc' hcc e2)
     have h3:=h1.block (hst6.block _ h1.lt hne)
     exact ⟨g',h3.more (by have:=HCHL.out;omega),h2⟩
   have hstw:Stays (MbS S) w w6:=HI.out.st.trans hst6 (fun j e => .inl ⟨c,hcc,e⟩)
   have HSM:=Lib.hid hsm
   have HSW:=Lib.hid hstw
   have HK6:=Lib.hid hK6
   clear hst6 hq6 hK6 hsm hstw hM6 hg6 HK HI HMV2 k0 kl e3 el c0 l0 c1 l1 g0 g1 g2' g3 g4 g5 g6 g7 g8 g9 g10 g11 gl a0 al
   go_wp2_with fail
   refine marks_one (v := .int .i64 (cn:Int)) HK6.out rfl (by simp[results,Tryz.f57,go_sem]) ⟨by rw[HCN.out],HSM.out.same (fun c' hc'=>World.putObj_heap_other (by have:=HMB.out c' hc';omega)),HSW.out.put D _ (by omega)⟩
theorem cnt_all (S:SP) (hn:S.n≤12):∀k c,c+k=S.n→CntC S k c:=by
 intro k
 induction k with
 | zero =>
  intro c hc r N w _ hB hM _
  obtain rfl:c=S.n:=by omega
  exact cnt_zero S r N w hB hM
 | succ k ih =>
  intro c hc
  exact cnt_succ S k c hc hn (ih (c+1) (by omega))
end
section
open Go Go.RowKit Go.Maps
def thr3:List (List Int):=[[0,3],[0,4],[0,5],[1,3],[1,4],[1,5],[2,3],[2,4],[2,5]]
def end3:List (List Int):=[[],[],[0],[],[],[1],[3],[4],[2,5]]
def one6 (i:Nat):Int:=if i<6 then 1 else 0
theorem okR_one6:okR one6:=by unfold okR one6;decide
theorem count3:cntF (fun c=>thr3[c]?.getD []) (fun c=>end3[c]?.getD []) 9 0 one6=6:=by decide +kernel
end
end Go.Proofs.YtpkghjoippcjeaaGreatDoor
