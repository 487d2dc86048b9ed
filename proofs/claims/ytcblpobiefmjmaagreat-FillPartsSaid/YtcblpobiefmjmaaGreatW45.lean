/- Texts Y3 to Y3 of this proof, in one file. -/
import Derived.Test.YtcblpobiefmjmaaGreatW15
import Derived.Test.YtcblpobiefmjmaaGreatW23
import Derived.Test.YtcblpobiefmjmaaGreatW30
import Derived.Test.YtcblpobiefmjmaaGreatW31
namespace Go.Proofs.YtcblpobiefmjmaaGreat
set_option maxRecDepth 100000
set_option maxHeartbeats 16000000
section
open Go Go.RowKit
attribute [local go_sem] over_cell
attribute [local go_sem] Oper.semAt_some
theorem take_badAt {ls:List (List Int)} {sum:Int} {g P:List Int} {k:Nat} (h:∀j,j<k→badAt ls sum g P j=0):Rch (plC ls sum g) (P.take k):=by
 intro j hj
 rw[List.length_take] at hj
 have h1:=h j (by omega)
 unfold badAt at h1
 rw[List.take_take,Nat.min_eq_left (by omega)]
 by_cases e:wrongB (plC ls sum g) (P.take j)=true
 ·rw[if_pos e] at h1;omega
 ·simpa using e
theorem first_none (e:Int):firstL [whenV false 2,whenV false 3,e]=e:=by
 by_cases h:e=0
 ·subst h;rfl
 ·simp[firstL,whenV,h]
theorem pathBad_lo {n:Nat} {g P:List Int} {k:Nat} (h:P[k]?.getD 0<1∨(n:Int)<P[k]?.getD 0):pathBad n g P k=3:=by
 unfold pathBad
 rw[show (decide (P[k]?.getD 0<1)||decide ((n:Int)<P[k]?.getD 0))=true from by simpa using h]
 rfl
theorem pathBad_tw {n:Nat} {g P:List Int} {k:Nat} (h1:¬P[k]?.getD 0<1) (h2:¬(n:Int)<P[k]?.getD 0) (h:hasB g (P[k]?.getD 0)=true∨hasB (P.take k) (P[k]?.getD 0)=true):pathBad n g P k=9:=by
 unfold pathBad
 rw[show (decide (P[k]?.getD 0<1)||decide ((n:Int)<P[k]?.getD 0))=false from by simp;omega,show (hasB g (P[k]?.getD 0)||hasB (P.take k) (P[k]?.getD 0))=true from by simpa using h]
 rfl
theorem pathBad_ok {n:Nat} {g P:List Int} {k:Nat} (h1:¬P[k]?.getD 0<1) (h2:¬(n:Int)<P[k]?.getD 0) (h3:hasB g (P[k]?.getD 0)=false) (h4:hasB (P.take k) (P[k]?.getD 0)=false):pathBad n g P k=0:=by
 unfold pathBad
 rw[show (decide (P[k]?.getD 0<1)||decide ((n:Int)<P[k]?.getD 0))=false from by simp;omega,h3,h4]
 rfl
theorem rcstate_c {cells:Int} {ls:List (List Int)} {sum:Int} {g:List Int} (G:GoodTask cells ls sum g) (a:Option Addr) (n c:Nat) (a':Option Addr) (n' c':Nat) (ap:Option Addr) (np cp:Nat) (P:List Int) (tried:Int) (d:Bool) (w:World) (h:RC w a n ls) (h':IC w a' n' g) (hP:IC w ap np P) (hcp:np≤cp) :
  Calls Tryz.prog 42 #[.agg #[.int .i64 cells,.slice a n c,.int .i64 sum,.slice a' n' c'],.agg #[.slice ap np cp,.int .i64 tried,.bool d]] w fun e w'=>e = .returned (.int .i64 (stateErr ls sum g P tried d))∧Below w.heap.size w w':=by
 have HP:=Lib.hid hP
 have H':=Lib.hid h'
 have hpl:=Lib.hid hP.len
 have hgl:=Lib.hid h'.len
 have hps:=hP.small
 have hgs:=h'.small
 have hn2:n'≤256:=by have:=G.glen;have:=h'.len;omega
 have HSt:Hid (stateErr ls sum g P tried d=if headErr g P tried d≠0 then headErr g P tried d else errs (badAt ls sum g P) np):=by unfold Hid stateErr;rw[hpl.out]
 have HH:Hid (headErr g P tried d=firstL [whenV (decide ((openL g).length<np)||(d&&decide (0<np))) 2,whenV (decide (tried<0)||decide (999999999<tried)) 3,errs (pathBad n' g P) np]):=by unfold Hid headErr pathErr;rw[hpl.out,hgl.out]
 have HOK:Hid (np≤(openL g).length→(∀j,j<np→pathBad n' g P j=0)→∀k,k≤np→OkG g (P.take k)):=fun hl hb k hk=>by
  have h1:=path_okP (C:=plC [] 0 g) (P:=P) (by show pathErr g.length g P=0;unfold pathErr;rw[hgl.out,hpl.out];exact errs_none hb) (by rw[hpl.out];exact hl) k (by rw[hpl.out];exact hk)
  exact h1
 have HWE:Hid (∀k,OkG g (P.take k)→(∀j,j<k→badAt ls sum g P j=0)→wrongR ls sum g (P.take k)=wrongB (plC ls sum g) (P.take k)):=fun k h1 h2=>wrong_eq G h1 (take_badAt h2)
 have HDE:Hid (∀k w1,Below w.heap.size w w1→k≤np→k≤(openL g).length→OkG g (P.take k)→Calls Tryz.prog 93 #[.agg #[.int .i64 cells,.slice a n c,.int .i64 sum,.slice a' n' c'],.slice ap k cp] w1 fun e w'=>e = .returned (.bool (deadR ls sum g (P.take k)))∧Below w1.heap.size w1 w'):=fun k w1 hb hk hko ho =>
  rdead_c G a n c a' n' c' ap k cp (P.take k) w1 (h.mono hb) (h'.mono hb) ((hP.take k hk).mono hb) hko (fun x hx=>ho.num (by rw[hgl.out];exact hn2) x hx)
 have HDR:Hid (∀k,k<np→np≤(openL g).length→deadR ls sum g (P.take k)=wrongR ls sum g (P.take k)):=fun k h1 h2=>by
  unfold deadR
  rw[List.length_take,hpl.out,Nat.min_eq_left (by omega),beq_eq_false_iff_ne.2 (by omega),Bool.false_or]
 have HO0:=Lib.hid (fun w1 (hb:Below w.heap.size w w1)=>ropen_c (.slice a n c) cells sum a' n' c' g w1 (h'.mono hb))
 obtain ⟨se,hse⟩:∃x,stateErr ls sum g P tried d=x:=⟨_,rfl⟩
 rw[hse] at HSt ⊢
 clear hse h h' hP G
 go_enter Tryz.func42,Tryz.ntmps42
 go_upto_region 1 with fail
 have fsz:((w.alloc (.cells #[.int .i64 cells,.slice a n c,.int .i64 sum,.slice a' n' c'] 28)).alloc (.cells #[.slice ap np cp,.int .i64 tried,.bool d] 76)).heap.size=w.heap.size+2:=by simp only[World.size_alloc] <;> omega
 have fB:Below w.heap.size w ((w.alloc (.cells #[.int .i64 cells,.slice a n c,.int .i64 sum,.slice a' n' c'] 28)).alloc (.cells #[.slice ap np cp,.int .i64 tried,.bool d] 76)):=((Below.refl _ _).alloc (Nat.le_refl _) _).alloc (by simp only[World.size_alloc];omega) _
 have fq0:((w.alloc (.cells #[.int .i64 cells,.slice a n c,.int .i64 sum,.slice a' n' c'] 28)).alloc (.cells #[.slice ap np cp,.int .i64 tried,.bool d] 76)).heap[w.heap.size]?=some (.cells #[.int .i64 cells,.slice a n c,.int .i64 sum,.slice a' n' c'] 28 (0,0)):=by have h:=World.alloc_heap_new w (.cells #[.int .i64 cells,.slice a n c,.int .i64 sum,.slice a' n' c'] 28);exact (Below.heap_alloc _ _ _ (by simp only[World.size_alloc];omega)).trans (h)
 have fq1:((w.alloc (.cells #[.int .i64 cells,.slice a n c,.int .i64 sum,.slice a' n' c'] 28)).alloc (.cells #[.slice ap np cp,.int .i64 tried,.bool d] 76)).heap[w.heap.size+1]?=some (.cells #[.slice ap np cp,.int .i64 tried,.bool d] 76 (0,0)):=by have h:=World.alloc_heap_new (w.alloc (.cells #[.int .i64 cells,.slice a n c,.int .i64 sum,.slice a' n' c'] 28)) (.cells #[.slice ap np cp,.int .i64 tried,.bool d] 76);simp only[World.size_alloc] at h;exact h
 generalize ((w.alloc (.cells #[.int .i64 cells,.slice a n c,.int .i64 sum,.slice a' n' c'] 28)).alloc (.cells #[.slice ap np cp,.int .i64 tried,.bool d] 76))=W0 at fsz fB fq0 fq1 ⊢
 have fsz':w.heap.size+1<W0.heap.size:=by omega
 have HQ0:=Lib.hid fq0
 have HQ1:=Lib.hid fq1
 have x0:W0.cell? ⟨w.heap.size,0,none⟩=some (.int .i64 cells):=q_cell fq0 0
 have x1:W0.cell? ⟨w.heap.size,1,none⟩=some (.slice a n c):=q_cell fq0 1
 have x2:W0.cell? ⟨w.heap.size,2,none⟩=some (.int .i64 sum):=q_cell fq0 2
 have x3:W0.cell? ⟨w.heap.size,3,none⟩=some (.slice a' n' c'):=q_cell fq0 3
 have y0:W0.cell? ⟨w.heap.size+1,0,none⟩=some (.slice ap np cp):=q_cell fq1 0
 have y1:W0.cell? ⟨w.heap.size+1,1,none⟩=some (.int .i64 tried):=q_cell fq1 1
 have y2:W0.cell? ⟨w.heap.size+1,2,none⟩=some (.bool d):=q_cell fq1 2
 have xl:=q_lt fq0
 have yl:=q_lt fq1
 clear fsz fq0 fq1
 have HOP:=Lib.hid (fun w1 (hb:Below W0.heap.size W0 w1)=>HO0.out w1 (keep_trans fB hb))
 clear HO0
 by_cases hA:(openL g).length<np
 ·have a1:decide (((openL g).length:Int)<(np:Int))=true:=decide_eq_true (by omega)
  have a1n:decide ((openL g).length<np)=true:=decide_eq_true hA
  have HR:Hid (se=2):=by
   have h1:headErr g P tried d=2:=by rw[HH.out,decide_eq_true hA,Bool.true_or];rfl
   unfold Hid;rw[HSt.out,h1];rfl
  clear hA
  refine wp_region_S (fun w'=>∃u,w'=over (W0) u) [] [(0,0),(0,1),(0,2),(0,3),(1,4),(0,5),(0,6),(0,7),(0,8),(0,9),(0,10),(0,11),(0,12),(0,13),(0,14),(0,15),(0,16)] (by kernel_rfl) (by kernel_rfl) (by exact ⟨_,below_over (by repeat (first|assumption|exact Below.refl _ _|refine keep_drew ?_|refine keep_alloc ?_ _|refine keep_trans ?_ (by assumption)))⟩) ?_
  dsimp only[pickOps,nthOp]
  repeat (first|(refine wpS_skip rfl (fun K hK=>?_);go_big_quiet_op;refine hK _ ?_;clear hK K)|(refine wpS_quiet rfl rfl (fun K hK=>?_);go_big_quiet_op;refine hK _ ?_;clear hK K)|(refine wpS_loud ?_;go_wp2_with ((go_at_call 16;refine (HOP.out _ (keep_drew (Below.refl _ _))).mono ?_;rintro _ w1 ⟨vo,rfl,howno,hb1⟩;obtain ⟨ao,co,rfl⟩:=owns_shape howno;clear howno;have v0:=((bcell hb1).1 _ _ yl).trans y0;have v1:=((bcell hb1).1 _ _ yl).trans y1;have v2:=((bcell hb1).1 _ _ yl).trans y2;have vl:=Nat.lt_of_lt_of_le yl hb1.size));refine ⟨?_,?_⟩;focus (exact ⟨_,below_over (by repeat (first|assumption|exact Below.refl _ _|refine keep_drew ?_|refine keep_alloc ?_ _|refine keep_trans ?_ (by assumption)))⟩)))
  refine wpS_end ?_
  go_wp2
  go_ret
  exact ⟨ret_int HR.out.symm,keep_trans fB ((keep_drew (Below.refl _ _)).trans hb1)⟩
 ·have a1:decide (((openL g).length:Int)<(np:Int))=false:=decide_eq_false (by omega)
  have a1n:decide ((openL g).length<np)=false:=decide_eq_false hA
  have hA':np≤(openL g).length:=by omega
  rw[decide_eq_false hA,Bool.false_or] at HH
  clear hA
  cases d with
  | true =>
   by_cases hB:0<np
   ·have b1:decide ((0:Int)<(np:Int))=true:=decide_eq_true (by omega)
    have b1n:decide (0<np)=true:=decide_eq_true hB
    have HR:Hid (se=2):=by
     have h1:headErr g P tried true=2:=by rw[HH.out,decide_eq_true hB];rfl
     unfold Hid;rw[HSt.out,h1];rfl
    refine wp_region_S (fun w'=>∃u,w'=over (W0) u) [] [(0,0),(0,1),(0,2),(0,3),(1,4),(0,5),(0,6),(0,7),(0,8),(0,9),(0,10),(0,11),(0,12),(0,13),(0,14),(0,15),(0,16)] (by kernel_rfl) (by kernel_rfl) (by exact ⟨_,below_over (by repeat (first|assumption|exact Below.refl _ _|refine keep_drew ?_|refine keep_alloc ?_ _|refine keep_trans ?_ (by assumption)))⟩) ?_
    dsimp only[pickOps,nthOp]
    repeat (first|(refine wpS_skip rfl (fun K hK=>?_);go_big_quiet_op;refine hK _ ?_;clear hK K)|(refine wpS_quiet rfl rfl (fun K hK=>?_);go_big_quiet_op;refine hK _ ?_;clear hK K)|(refine wpS_loud ?_;go_wp2_with ((go_at_call 16;refine (HOP.out _ (keep_drew (Below.refl _ _))).mono ?_;rintro _ w1 ⟨vo,rfl,howno,hb1⟩;obtain ⟨ao,co,rfl⟩:=owns_shape howno;clear howno;have v0:=((bcell hb1).1 _ _ yl).trans y0;have v1:=((bcell hb1).1 _ _ yl).trans y1;have v2:=((bcell hb1).1 _ _ yl).trans y2;have vl:=Nat.lt_of_lt_of_le yl hb1.size));refine ⟨?_,?_⟩;focus (exact ⟨_,below_over (by repeat (first|assumption|exact Below.refl _ _|refine keep_drew ?_|refine keep_alloc ?_ _|refine keep_trans ?_ (by assumption)))⟩)))
    refine wpS_end ?_
    go_wp2
    go_ret
    exact ⟨ret_int HR.out.symm,keep_trans fB ((keep_drew (Below.refl _ _)).trans hb1)⟩
   have b1:decide ((0:Int)<(np:Int))=false:=decide_eq_false (by omega)
   have b1n:decide (0<np)=false:=decide_eq_false hB
   rw[decide_eq_false hB,Bool.and_false] at HH
   by_cases t1:tried<0
   ·have e1:decide (tried<0)=true:=decide_eq_true t1
    have HR:Hid (se=3):=by
     have h1:headErr g P tried true=3:=by rw[HH.out,e1,Bool.true_or];rfl
     unfold Hid;rw[HSt.out,h1];rfl
    refine wp_region_S (fun w'=>∃u,w'=over (W0) u) [] [(0,0),(0,1),(0,2),(0,3),(1,4),(0,5),(0,6),(0,7),(0,8),(0,9),(0,10),(0,11),(0,12),(0,13),(0,14),(0,15),(0,16)] (by kernel_rfl) (by kernel_rfl) (by exact ⟨_,below_over (by repeat (first|assumption|exact Below.refl _ _|refine keep_drew ?_|refine keep_alloc ?_ _|refine keep_trans ?_ (by assumption)))⟩) ?_
    dsimp only[pickOps,nthOp]
    repeat (first|(refine wpS_skip rfl (fun K hK=>?_);go_big_quiet_op;refine hK _ ?_;clear hK K)|(refine wpS_quiet rfl rfl (fun K hK=>?_);go_big_quiet_op;refine hK _ ?_;clear hK K)|(refine wpS_loud ?_;go_wp2_with ((go_at_call 16;refine (HOP.out _ (keep_drew (Below.refl _ _))).mono ?_;rintro _ w1 ⟨vo,rfl,howno,hb1⟩;obtain ⟨ao,co,rfl⟩:=owns_shape howno;clear howno;have v0:=((bcell hb1).1 _ _ yl).trans y0;have v1:=((bcell hb1).1 _ _ yl).trans y1;have v2:=((bcell hb1).1 _ _ yl).trans y2;have vl:=Nat.lt_of_lt_of_le yl hb1.size));refine ⟨?_,?_⟩;focus (exact ⟨_,below_over (by repeat (first|assumption|exact Below.refl _ _|refine keep_drew ?_|refine keep_alloc ?_ _|refine keep_trans ?_ (by assumption)))⟩)))
    refine wpS_end ?_
    go_wp2
    go_ret
    exact ⟨ret_int HR.out.symm,keep_trans fB ((keep_drew (Below.refl _ _)).trans hb1)⟩
   by_cases t2:999999999<tried
   ·have e1:decide (tried<0)=false:=decide_eq_false t1
    have e2:decide (999999999<tried)=true:=decide_eq_true t2
    have HR:Hid (se=3):=by
     have h1:headErr g P tried true=3:=by rw[HH.out,e2,Bool.or_true];rfl
     unfold Hid;rw[HSt.out,h1];rfl
    refine wp_region_S (fun w'=>∃u,w'=over (W0) u) [] [(0,0),(0,1),(0,2),(0,3),(1,4),(0,5),(0,6),(0,7),(0,8),(0,9),(0,10),(0,11),(0,12),(0,13),(0,14),(0,15),(0,16)] (by kernel_rfl) (by kernel_rfl) (by exact ⟨_,below_over (by repeat (first|assumption|exact Below.refl _ _|refine keep_drew ?_|refine keep_alloc ?_ _|refine keep_trans ?_ (by assumption)))⟩) ?_
    dsimp only[pickOps,nthOp]
    repeat (first|(refine wpS_skip rfl (fun K hK=>?_);go_big_quiet_op;refine hK _ ?_;clear hK K)|(refine wpS_quiet rfl rfl (fun K hK=>?_);go_big_quiet_op;refine hK _ ?_;clear hK K)|(refine wpS_loud ?_;go_wp2_with ((go_at_call 16;refine (HOP.out _ (keep_drew (Below.refl _ _))).mono ?_;rintro _ w1 ⟨vo,rfl,howno,hb1⟩;obtain ⟨ao,co,rfl⟩:=owns_shape howno;clear howno;have v0:=((bcell hb1).1 _ _ yl).trans y0;have v1:=((bcell hb1).1 _ _ yl).trans y1;have v2:=((bcell hb1).1 _ _ yl).trans y2;have vl:=Nat.lt_of_lt_of_le yl hb1.size));refine ⟨?_,?_⟩;focus (exact ⟨_,below_over (by repeat (first|assumption|exact Below.refl _ _|refine keep_drew ?_|refine keep_alloc ?_ _|refine keep_trans ?_ (by assumption)))⟩)))
    refine wpS_end ?_
    go_wp2
    go_ret
    exact ⟨ret_int HR.out.symm,keep_trans fB ((keep_drew (Below.refl _ _)).trans hb1)⟩
   have e1:decide (tried<0)=false:=decide_eq_false t1
   have e2:decide (999999999<tried)=false:=decide_eq_false t2
   rw[e1,e2,Bool.or_false,show firstL [whenV false 2,whenV false 3,errs (pathBad n' g P) np]=errs (pathBad n' g P) np from first_none _] at HH
   refine wp_region_S (fun w'=>∃u,w'=over (W0) u) [] [(0,0),(0,1),(0,2),(0,3),(1,4),(0,5),(0,6),(0,7),(0,8),(0,9),(0,10),(0,11),(0,12),(0,13),(0,14),(0,15),(0,16)] (by kernel_rfl) (by kernel_rfl) (by exact ⟨_,below_over (by repeat (first|assumption|exact Below.refl _ _|refine keep_drew ?_|refine keep_alloc ?_ _|refine keep_trans ?_ (by assumption)))⟩) ?_
   dsimp only[pickOps,nthOp]
   repeat (first|(refine wpS_skip rfl (fun K hK=>?_);go_big_quiet_op;refine hK _ ?_;clear hK K)|(refine wpS_quiet rfl rfl (fun K hK=>?_);go_big_quiet_op;refine hK _ ?_;clear hK K)|(refine wpS_loud ?_;go_wp2_with ((go_at_call 16;refine (HOP.out _ (keep_drew (Below.refl _ _))).mono ?_;rintro _ w1 ⟨vo,rfl,howno,hb1⟩;obtain ⟨ao,co,rfl⟩:=owns_shape howno;clear howno;have v0:=((bcell hb1).1 _ _ yl).trans y0;have v1:=((bcell hb1).1 _ _ yl).trans y1;have v2:=((bcell hb1).1 _ _ yl).trans y2;have vl:=Nat.lt_of_lt_of_le yl hb1.size));refine ⟨?_,?_⟩;focus (exact ⟨_,below_over (by repeat (first|assumption|exact Below.refl _ _|refine keep_drew ?_|refine keep_alloc ?_ _|refine keep_trans ?_ (by assumption)))⟩)))
   refine wpS_end ?_
   have hbA:Below W0.heap.size W0 w1:=(keep_drew (Below.refl _ _)).trans hb1
   clear x0 x1 x2 x3 HOP
   go_wp2_with fail
   clear y0 y1 y2 yl xl
   go_loopw [5] (fun i wr=>∃k:Nat,k≤np∧i = .int .i64 k∧Hid (∀j,j<k→pathBad n' g P j=0)∧Below W0.heap.size W0 wr) (fun i _=>np - (intOf i).toNat)
   case atStart=>exact ⟨0,by omega,rfl,fun j hj=>absurd hj (by omega),hbA⟩
   case round =>
    obtain ⟨k,hk,rfl,hn,hbr⟩:=hrel
    have x0:wr.cell? ⟨w.heap.size,0,none⟩=some (.int .i64 cells):=q_cell (keepq hbr HQ0.out) 0
    have x1:wr.cell? ⟨w.heap.size,1,none⟩=some (.slice a n c):=q_cell (keepq hbr HQ0.out) 1
    have x2:wr.cell? ⟨w.heap.size,2,none⟩=some (.int .i64 sum):=q_cell (keepq hbr HQ0.out) 2
    have x3:wr.cell? ⟨w.heap.size,3,none⟩=some (.slice a' n' c'):=q_cell (keepq hbr HQ0.out) 3
    have y0:wr.cell? ⟨w.heap.size+1,0,none⟩=some (.slice ap np cp):=q_cell (keepq hbr HQ1.out) 0
    have xl:=q_lt (keepq hbr HQ0.out)
    have yl:=q_lt (keepq hbr HQ1.out)
    have hBW:=keep_trans fB hbr
    by_cases hlt:k<np
    ·exact absurd hlt (by omega)
    ·have e:k=np:=by omega
     have HOKK:=Lib.hid (HOK.out hA' (by rw[← e];exact hn.out))
     have HZ:Hid (headErr g P tried true=0):=by unfold Hid;rw[HH.out];exact errs_none (by rw[← e];exact hn.out)
     have HS2:Hid (se=errs (badAt ls sum g P) np):=by unfold Hid;rw[HSt.out,HZ.out];rfl
     have hbB:=hbr
     subst e
     go_wp2_with fail
     clear x0 x1 x2 x3 y0 xl yl hBW hbr
     go_loopw [6] (fun i wr=>∃j:Nat,j≤k∧i = .int .i64 j∧Hid (∀i,i<j→badAt ls sum g P i=0)∧Below W0.heap.size W0 wr) (fun i _=>k - (intOf i).toNat)
     case atStart=>exact ⟨0,by omega,rfl,fun j hj=>absurd hj (by omega),hbB⟩
     case round =>
      obtain ⟨j,hj,rfl,hn2,hbr⟩:=hrel
      have x0:wr.cell? ⟨w.heap.size,0,none⟩=some (.int .i64 cells):=q_cell (keepq hbr HQ0.out) 0
      have x1:wr.cell? ⟨w.heap.size,1,none⟩=some (.slice a n c):=q_cell (keepq hbr HQ0.out) 1
      have x2:wr.cell? ⟨w.heap.size,2,none⟩=some (.int .i64 sum):=q_cell (keepq hbr HQ0.out) 2
      have x3:wr.cell? ⟨w.heap.size,3,none⟩=some (.slice a' n' c'):=q_cell (keepq hbr HQ0.out) 3
      have y0:wr.cell? ⟨w.heap.size+1,0,none⟩=some (.slice ap k cp):=q_cell (keepq hbr HQ1.out) 0
      have xl:=q_lt (keepq hbr HQ0.out)
      have yl:=q_lt (keepq hbr HQ1.out)
      by_cases hlt:j<k
      ·exact absurd hlt (by omega)
      ·have e:j=k:=by omega
       subst e
       have HR:Hid (se=0):=by unfold Hid;rw[HS2.out];exact errs_none hn2.out
       go_wp2
       go_ret
       exact ⟨ret_int HR.out.symm,keep_trans fB hbr⟩
  | false =>
   rw[Bool.false_and] at HH
   by_cases t1:tried<0
   ·have e1:decide (tried<0)=true:=decide_eq_true t1
    have HR:Hid (se=3):=by
     have h1:headErr g P tried false=3:=by rw[HH.out,e1,Bool.true_or];rfl
     unfold Hid;rw[HSt.out,h1];rfl
    refine wp_region_S (fun w'=>∃u,w'=over (W0) u) [] [(0,0),(0,1),(0,2),(0,3),(1,4),(0,5),(0,6),(0,7),(0,8),(0,9),(0,10),(0,11),(0,12),(0,13),(0,14),(0,15),(0,16)] (by kernel_rfl) (by kernel_rfl) (by exact ⟨_,below_over (by repeat (first|assumption|exact Below.refl _ _|refine keep_drew ?_|refine keep_alloc ?_ _|refine keep_trans ?_ (by assumption)))⟩) ?_
    dsimp only[pickOps,nthOp]
    repeat (first|(refine wpS_skip rfl (fun K hK=>?_);go_big_quiet_op;refine hK _ ?_;clear hK K)|(refine wpS_quiet rfl rfl (fun K hK=>?_);go_big_quiet_op;refine hK _ ?_;clear hK K)|(refine wpS_loud ?_;go_wp2_with ((go_at_call 16;refine (HOP.out _ (keep_drew (Below.refl _ _))).mono ?_;rintro _ w1 ⟨vo,rfl,howno,hb1⟩;obtain ⟨ao,co,rfl⟩:=owns_shape howno;clear howno;have v0:=((bcell hb1).1 _ _ yl).trans y0;have v1:=((bcell hb1).1 _ _ yl).trans y1;have v2:=((bcell hb1).1 _ _ yl).trans y2;have vl:=Nat.lt_of_lt_of_le yl hb1.size));refine ⟨?_,?_⟩;focus (exact ⟨_,below_over (by repeat (first|assumption|exact Below.refl _ _|refine keep_drew ?_|refine keep_alloc ?_ _|refine keep_trans ?_ (by assumption)))⟩)))
    refine wpS_end ?_
    go_wp2
    go_ret
    exact ⟨ret_int HR.out.symm,keep_trans fB ((keep_drew (Below.refl _ _)).trans hb1)⟩
   by_cases t2:999999999<tried
   ·have e1:decide (tried<0)=false:=decide_eq_false t1
    have e2:decide (999999999<tried)=true:=decide_eq_true t2
    have HR:Hid (se=3):=by
     have h1:headErr g P tried false=3:=by rw[HH.out,e2,Bool.or_true];rfl
     unfold Hid;rw[HSt.out,h1];rfl
    refine wp_region_S (fun w'=>∃u,w'=over (W0) u) [] [(0,0),(0,1),(0,2),(0,3),(1,4),(0,5),(0,6),(0,7),(0,8),(0,9),(0,10),(0,11),(0,12),(0,13),(0,14),(0,15),(0,16)] (by kernel_rfl) (by kernel_rfl) (by exact ⟨_,below_over (by repeat (first|assumption|exact Below.refl _ _|refine keep_drew ?_|refine keep_alloc ?_ _|refine keep_trans ?_ (by assumption)))⟩) ?_
    dsimp only[pickOps,nthOp]
    repeat (first|(refine wpS_skip rfl (fun K hK=>?_);go_big_quiet_op;refine hK _ ?_;clear hK K)|(refine wpS_quiet rfl rfl (fun K hK=>?_);go_big_quiet_op;refine hK _ ?_;clear hK K)|(refine wpS_loud ?_;go_wp2_with ((go_at_call 16;refine (HOP.out _ (keep_drew (Below.refl _ _))).mono ?_;rintro _ w1 ⟨vo,rfl,howno,hb1⟩;obtain ⟨ao,co,rfl⟩:=owns_shape howno;clear howno;have v0:=((bcell hb1).1 _ _ yl).trans y0;have v1:=((bcell hb1).1 _ _ yl).trans y1;have v2:=((bcell hb1).1 _ _ yl).trans y2;have vl:=Nat.lt_of_lt_of_le yl hb1.size));refine ⟨?_,?_⟩;focus (exact ⟨_,below_over (by repeat (first|assumption|exact Below.refl _ _|refine keep_drew ?_|refine keep_alloc ?_ _|refine keep_trans ?_ (by assumption)))⟩)))
    refine wpS_end ?_
    go_wp2
    go_ret
    exact ⟨ret_int HR.out.symm,keep_trans fB ((keep_drew (Below.refl _ _)).trans hb1)⟩
   have e1:decide (tried<0)=false:=decide_eq_false t1
   have e2:decide (999999999<tried)=false:=decide_eq_false t2
   rw[e1,e2,Bool.or_false,show firstL [whenV false 2,whenV false 3,errs (pathBad n' g P) np]=errs (pathBad n' g P) np from first_none _] at HH
   refine wp_region_S (fun w'=>∃u,w'=over (W0) u) [] [(0,0),(0,1),(0,2),(0,3),(1,4),(0,5),(0,6),(0,7),(0,8),(0,9),(0,10),(0,11),(0,12),(0,13),(0,14),(0,15),(0,16)] (by kernel_rfl) (by kernel_rfl) (by exact ⟨_,below_over (by repeat (first|assumption|exact Below.refl _ _|refine keep_drew ?_|refine keep_alloc ?_ _|refine keep_trans ?_ (by assumption)))⟩) ?_
   dsimp only[pickOps,nthOp]
   repeat (first|(refine wpS_skip rfl (fun K hK=>?_);go_big_quiet_op;refine hK _ ?_;clear hK K)|(refine wpS_quiet rfl rfl (fun K hK=>?_);go_big_quiet_op;refine hK _ ?_;clear hK K)|(refine wpS_loud ?_;go_wp2_with ((go_at_call 16;refine (HOP.out _ (keep_drew (Below.refl _ _))).mono ?_;rintro _ w1 ⟨vo,rfl,howno,hb1⟩;obtain ⟨ao,co,rfl⟩:=owns_shape howno;clear howno;have v0:=((bcell hb1).1 _ _ yl).trans y0;have v1:=((bcell hb1).1 _ _ yl).trans y1;have v2:=((bcell hb1).1 _ _ yl).trans y2;have vl:=Nat.lt_of_lt_of_le yl hb1.size));refine ⟨?_,?_⟩;focus (exact ⟨_,below_over (by repeat (first|assumption|exact Below.refl _ _|refine keep_drew ?_|refine keep_alloc ?_ _|refine keep_trans ?_ (by assumption)))⟩)))
   refine wpS_end ?_
   have hbA:Below W0.heap.size W0 w1:=(keep_drew (Below.refl _ _)).trans hb1
   clear x0 x1 x2 x3 HOP
   go_wp2_with fail
   clear y0 y1 y2 yl xl
   go_loopw [5] (fun i wr=>∃k:Nat,k≤np∧i = .int .i64 k∧Hid (∀j,j<k→pathBad n' g P j=0)∧Below W0.heap.size W0 wr) (fun i _=>np - (intOf i).toNat)
   case atStart=>exact ⟨0,by omega,rfl,fun j hj=>absurd hj (by omega),hbA⟩
   case round =>
    obtain ⟨k,hk,rfl,hn,hbr⟩:=hrel
    have x0:wr.cell? ⟨w.heap.size,0,none⟩=some (.int .i64 cells):=q_cell (keepq hbr HQ0.out) 0
    have x1:wr.cell? ⟨w.heap.size,1,none⟩=some (.slice a n c):=q_cell (keepq hbr HQ0.out) 1
    have x2:wr.cell? ⟨w.heap.size,2,none⟩=some (.int .i64 sum):=q_cell (keepq hbr HQ0.out) 2
    have x3:wr.cell? ⟨w.heap.size,3,none⟩=some (.slice a' n' c'):=q_cell (keepq hbr HQ0.out) 3
    have y0:wr.cell? ⟨w.heap.size+1,0,none⟩=some (.slice ap np cp):=q_cell (keepq hbr HQ1.out) 0
    have xl:=q_lt (keepq hbr HQ0.out)
    have yl:=q_lt (keepq hbr HQ1.out)
    have hBW:=keep_trans fB hbr
    by_cases hlt:k<np
    ·obtain ⟨b,off,rfl,hb,hc⟩:=(HP.out.mono hBW).2 k hlt
     have hli:(k:Int)<(np:Int):=by omega
     have hl0:(0:Int)≤(k:Int):=by omega
     have hkc:k≤cp:=by omega
     have HLO:Hid (P[k]?.getD 0<1∨(n':Int)<P[k]?.getD 0→pathBad n' g P k=3):=pathBad_lo
     have HTW:Hid (¬P[k]?.getD 0<1→¬(n':Int)<P[k]?.getD 0→(hasB g (P[k]?.getD 0)=true∨hasB (P.take k) (P[k]?.getD 0)=true)→pathBad n' g P k=9):=pathBad_tw
     have HGD:Hid (¬P[k]?.getD 0<1→¬(n':Int)<P[k]?.getD 0→hasB g (P[k]?.getD 0)=false→hasB (P.take k) (P[k]?.getD 0)=false→pathBad n' g P k=0):=pathBad_ok
     have HC1:=Lib.hid (fun W x (hb:Below wr.heap.size wr W)=>has_c a' n' c' g x W ((H'.out.mono hBW).mono hb))
     have HC2:=Lib.hid (fun W x (hb:Below wr.heap.size wr W)=>has_c (some ⟨b,off,none⟩) k cp (P.take k) x W (((HP.out.mono hBW).take k hk).mono hb))
     generalize P[k]?.getD 0=x at hc HLO HTW HGD
     have HOUT:Hid (∀z,pathBad n' g P k=z→z≠0→se=z):=fun z hz hz0=>by
      have h1:=errs_found hn.out hlt (by rw[hz];exact hz0)
      rw[HSt.out,HH.out,h1,hz,if_pos hz0]
     by_cases g1:x<1
     ·have f1:decide (x<1)=true:=decide_eq_true g1
      have HR:=Lib.hid (HOUT.out 3 (HLO.out (.inl g1)) (by decide))
      clear g1
      go_wp2_with fail
      refine wp_region_S (fun w'=>∃u,w'=over (wr) u) [] [(0,0),(0,1),(0,2),(0,3),(0,4),(0,5),(0,6),(0,7),(0,8),(0,9),(0,10),(0,11),(0,12),(0,13),(0,14),(0,15),(0,16)] (by kernel_rfl) (by kernel_rfl) (by exact ⟨_,below_over (by repeat (first|assumption|exact Below.refl _ _|refine keep_drew ?_|refine keep_alloc ?_ _|refine keep_trans ?_ (by assumption)))⟩) ?_
      dsimp only[pickOps,nthOp]
      repeat (first|(refine wpS_skip rfl (fun K hK=>?_);go_big_quiet_op;refine hK _ ?_;clear hK K)|(refine wpS_quiet rfl rfl (fun K hK=>?_);go_big_quiet_op;refine hK _ ?_;clear hK K))
      refine wpS_end ?_
      go_wp2
      go_ret
      exact ⟨ret_int HR.out.symm,hBW.drew⟩
     have f1:decide (x<1)=false:=decide_eq_false g1
     by_cases g2:(n':Int)<x
     ·have f2:decide ((n':Int)<x)=true:=decide_eq_true g2
      have HR:=Lib.hid (HOUT.out 3 (HLO.out (.inr g2)) (by decide))
      go_wp2_with fail
      refine wp_region_S (fun w'=>∃u,w'=over (wr) u) [] [(0,0),(0,1),(0,2),(0,3),(0,4),(0,5),(0,6),(0,7),(0,8),(0,9),(0,10),(0,11),(0,12),(0,13),(0,14),(0,15),(0,16)] (by kernel_rfl) (by kernel_rfl) (by exact ⟨_,below_over (by repeat (first|assumption|exact Below.refl _ _|refine keep_drew ?_|refine keep_alloc ?_ _|refine keep_trans ?_ (by assumption)))⟩) ?_
      dsimp only[pickOps,nthOp]
      repeat (first|(refine wpS_skip rfl (fun K hK=>?_);go_big_quiet_op;refine hK _ ?_;clear hK K)|(refine wpS_quiet rfl rfl (fun K hK=>?_);go_big_quiet_op;refine hK _ ?_;clear hK K))
      refine wpS_end ?_
      go_wp2
      go_ret
      exact ⟨ret_int HR.out.symm,hBW.drew⟩
     have f2:decide ((n':Int)<x)=false:=decide_eq_false g2
     cases g3:hasB g x with
     | true =>
      have HR:=Lib.hid (HOUT.out 9 (HTW.out g1 g2 (.inl g3)) (by decide))
      have HC1:=Lib.hid (fun W (hb:Below wr.heap.size wr W)=>HC1.out W x hb)
      rw[g3] at HC1
      clear g3
      go_wp2_with fail
      refine wp_region_S (fun w'=>∃u,w'=over (wr) u) [] [(0,0),(0,1),(0,2),(0,3),(0,4),(0,5),(0,6),(0,7),(0,8),(0,9),(0,10),(0,11),(0,12),(0,13),(0,14),(0,15),(0,16)] (by kernel_rfl) (by kernel_rfl) (by exact ⟨_,below_over (by repeat (first|assumption|exact Below.refl _ _|refine keep_drew ?_|refine keep_alloc ?_ _|refine keep_trans ?_ (by assumption)))⟩) ?_
      dsimp only[pickOps,nthOp]
      repeat (first|(refine wpS_skip rfl (fun K hK=>?_);go_big_quiet_op;refine hK _ ?_;clear hK K)|(refine wpS_quiet rfl rfl (fun K hK=>?_);go_big_quiet_op;refine hK _ ?_;clear hK K))
      refine wpS_end ?_
      go_wp2_with fail
      refine wp_region_S (fun w'=>∃u,w'=over (wr) u) [] [(0,0),(0,1),(0,2),(0,3),(0,4),(0,5),(0,6),(1,7),(0,8),(0,9),(0,10),(0,11),(0,12),(0,13),(0,14),(0,15),(0,16),(0,17),(1,18),(0,19)] (by kernel_rfl) (by kernel_rfl) (by exact ⟨_,below_over (by repeat (first|assumption|exact Below.refl _ _|refine keep_drew ?_|refine keep_alloc ?_ _|refine keep_trans ?_ (by assumption)))⟩) ?_
      dsimp only[pickOps,nthOp]
      repeat (first|(refine wpS_skip rfl (fun K hK=>?_);go_big_quiet_op;refine hK _ ?_;clear hK K)|(refine wpS_quiet rfl rfl (fun K hK=>?_);go_big_quiet_op;refine hK _ ?_;clear hK K)|(refine wpS_loud ?_;go_wp2_with ((go_at_call 59;refine (HC1.out _ (keep_drew (keep_drew (Below.refl _ _)))).mono ?_;rintro _ w3 ⟨rfl,rfl⟩));refine ⟨?_,?_⟩;focus (exact ⟨_,below_over (by repeat (first|assumption|exact Below.refl _ _|refine keep_drew ?_|refine keep_alloc ?_ _|refine keep_trans ?_ (by assumption)))⟩)))
      refine wpS_end ?_
      go_wp2
      go_ret
      exact ⟨ret_int HR.out.symm,hBW.drew.drew⟩
     | false =>
      have HC1:=Lib.hid (fun W (hb:Below wr.heap.size wr W)=>HC1.out W x hb)
      rw[g3] at HC1
      cases g4:hasB (P.take k) x with
      | true =>
       have HR:=Lib.hid (HOUT.out 9 (HTW.out g1 g2 (.inr g4)) (by decide))
       have HC2:=Lib.hid (fun W (hb:Below wr.heap.size wr W)=>HC2.out W x hb)
       rw[g4] at HC2
       clear g3 g4
       go_wp2_with fail
       refine wp_region_S (fun w'=>∃u,w'=over (wr) u) [] [(0,0),(0,1),(0,2),(0,3),(0,4),(0,5),(0,6),(0,7),(0,8),(0,9),(0,10),(0,11),(0,12),(0,13),(0,14),(0,15),(0,16)] (by kernel_rfl) (by kernel_rfl) (by exact ⟨_,below_over (by repeat (first|assumption|exact Below.refl _ _|refine keep_drew ?_|refine keep_alloc ?_ _|refine keep_trans ?_ (by assumption)))⟩) ?_
       dsimp only[pickOps,nthOp]
       repeat (first|(refine wpS_skip rfl (fun K hK=>?_);go_big_quiet_op;refine hK _ ?_;clear hK K)|(refine wpS_quiet rfl rfl (fun K hK=>?_);go_big_quiet_op;refine hK _ ?_;clear hK K))
       refine wpS_end ?_
       go_wp2_with fail
       refine wp_region_S (fun w'=>∃u,w'=over (wr) u) [] [(0,0),(0,1),(0,2),(0,3),(0,4),(0,5),(0,6),(1,7),(0,8),(0,9),(0,10),(0,11),(0,12),(0,13),(0,14),(0,15),(0,16),(0,17),(1,18),(0,19)] (by kernel_rfl) (by kernel_rfl) (by exact ⟨_,below_over (by repeat (first|assumption|exact Below.refl _ _|refine keep_drew ?_|refine keep_alloc ?_ _|refine keep_trans ?_ (by assumption)))⟩) ?_
       dsimp only[pickOps,nthOp]
       repeat (first|(refine wpS_skip rfl (fun K hK=>?_);go_big_quiet_op;refine hK _ ?_;clear hK K)|(refine wpS_quiet rfl rfl (fun K hK=>?_);go_big_quiet_op;refine hK _ ?_;clear hK K)|(refine wpS_loud ?_;go_wp2_with ((go_at_call 59;first|(with_reducible refine (HC1.out _ (keep_drew (keep_drew (Below.refl _ _)))).mono ?_;rintro _ w3 ⟨rfl,rfl⟩)|(with_reducible refine (HC2.out _ (keep_drew (keep_drew (Below.refl _ _)))).mono ?_;rintro _ w3 ⟨rfl,rfl⟩)));refine ⟨?_,?_⟩;focus (exact ⟨_,below_over (by repeat (first|assumption|exact Below.refl _ _|refine keep_drew ?_|refine keep_alloc ?_ _|refine keep_trans ?_ (by assumption)))⟩)))
       refine wpS_end ?_
       go_wp2
       go_ret
       exact ⟨ret_int HR.out.symm,hBW.drew.drew⟩
      | false =>
       have HR:=Lib.hid (HGD.out g1 g2 g3 g4)
       have HC2:=Lib.hid (fun W (hb:Below wr.heap.size wr W)=>HC2.out W x hb)
       rw[g4] at HC2
       clear g3 g4
       go_wp2_with fail
       refine wp_region_S (fun w'=>∃u,w'=over (wr) u) [] [(0,0),(0,1),(0,2),(0,3),(0,4),(0,5),(0,6),(0,7),(0,8),(0,9),(0,10),(0,11),(0,12),(0,13),(0,14),(0,15),(0,16)] (by kernel_rfl) (by kernel_rfl) (by exact ⟨_,below_over (by repeat (first|assumption|exact Below.refl _ _|refine keep_drew ?_|refine keep_alloc ?_ _|refine keep_trans ?_ (by assumption)))⟩) ?_
       dsimp only[pickOps,nthOp]
       repeat (first|(refine wpS_skip rfl (fun K hK=>?_);go_big_quiet_op;refine hK _ ?_;clear hK K)|(refine wpS_quiet rfl rfl (fun K hK=>?_);go_big_quiet_op;refine hK _ ?_;clear hK K))
       refine wpS_end ?_
       go_wp2_with fail
       refine wp_region_S (fun w'=>∃u,w'=over (wr) u) [] [(0,0),(0,1),(0,2),(0,3),(0,4),(0,5),(0,6),(1,7),(0,8),(0,9),(0,10),(0,11),(0,12),(0,13),(0,14),(0,15),(0,16),(0,17),(1,18),(0,19)] (by kernel_rfl) (by kernel_rfl) (by exact ⟨_,below_over (by repeat (first|assumption|exact Below.refl _ _|refine keep_drew ?_|refine keep_alloc ?_ _|refine keep_trans ?_ (by assumption)))⟩) ?_
       dsimp only[pickOps,nthOp]
       repeat (first|(refine wpS_skip rfl (fun K hK=>?_);go_big_quiet_op;refine hK _ ?_;clear hK K)|(refine wpS_quiet rfl rfl (fun K hK=>?_);go_big_quiet_op;refine hK _ ?_;clear hK K)|(refine wpS_loud ?_;go_wp2_with ((go_at_call 59;first|(with_reducible refine (HC1.out _ (keep_drew (keep_drew (Below.refl _ _)))).mono ?_;rintro _ w3 ⟨rfl,rfl⟩)|(with_reducible refine (HC2.out _ (keep_drew (keep_drew (Below.refl _ _)))).mono ?_;rintro _ w3 ⟨rfl,rfl⟩)));refine ⟨?_,?_⟩;focus (exact ⟨_,below_over (by repeat (first|assumption|exact Below.refl _ _|refine keep_drew ?_|refine keep_alloc ?_ _|refine keep_trans ?_ (by assumption)))⟩)))
       refine wpS_end ?_
       go_wp2
       go_roundw
       case rel=>exact ⟨k+1,by omega,by go_num,upto_snoc hn.out HR.out,hbr.drew.drew⟩
       case measure=>simp[intOf];omega
    ·have e:k=np:=by omega
     have HOKK:=Lib.hid (HOK.out hA' (by rw[← e];exact hn.out))
     have HZ:Hid (headErr g P tried false=0):=by unfold Hid;rw[HH.out];exact errs_none (by rw[← e];exact hn.out)
     have HS2:Hid (se=errs (badAt ls sum g P) np):=by unfold Hid;rw[HSt.out,HZ.out];rfl
     have hbB:=hbr
     subst e
     go_wp2_with fail
     clear x0 x1 x2 x3 y0 xl yl hBW hbr
     go_loopw [6] (fun i wr=>∃j:Nat,j≤k∧i = .int .i64 j∧Hid (∀i,i<j→badAt ls sum g P i=0)∧Below W0.heap.size W0 wr) (fun i _=>k - (intOf i).toNat)
     case atStart=>exact ⟨0,by omega,rfl,fun j hj=>absurd hj (by omega),hbB⟩
     case round =>
      obtain ⟨j,hj,rfl,hn2,hbr⟩:=hrel
      have x0:wr.cell? ⟨w.heap.size,0,none⟩=some (.int .i64 cells):=q_cell (keepq hbr HQ0.out) 0
      have x1:wr.cell? ⟨w.heap.size,1,none⟩=some (.slice a n c):=q_cell (keepq hbr HQ0.out) 1
      have x2:wr.cell? ⟨w.heap.size,2,none⟩=some (.int .i64 sum):=q_cell (keepq hbr HQ0.out) 2
      have x3:wr.cell? ⟨w.heap.size,3,none⟩=some (.slice a' n' c'):=q_cell (keepq hbr HQ0.out) 3
      have y0:wr.cell? ⟨w.heap.size+1,0,none⟩=some (.slice ap k cp):=q_cell (keepq hbr HQ1.out) 0
      have xl:=q_lt (keepq hbr HQ0.out)
      have yl:=q_lt (keepq hbr HQ1.out)
      by_cases hlt:j<k
      ·have hji:(j:Int)<(k:Int):=by omega
       have hj0:(0:Int)≤(j:Int):=by omega
       have hjc:j≤cp:=by omega
       have HD:=Lib.hid (fun W (hb:Below wr.heap.size wr W)=>HDE.out j W (keep_trans fB (hbr.trans (hb.mono hbr.size))) (by omega) (by omega) (HOKK.out j (by omega)))
       rw[HDR.out j hlt hA',HWE.out j (HOKK.out j (by omega)) hn2.out] at HD
       have HBA:Hid (badAt ls sum g P j=if wrongB (plC ls sum g) (P.take j)=true then 29 else 0):=rfl
       cases hw:wrongB (plC ls sum g) (P.take j) with
       | true =>
        rw[hw] at HD
        rw[hw,if_pos rfl] at HBA
        have HR:Hid (se=29):=by unfold Hid;rw[HS2.out,errs_found hn2.out hlt (by rw[HBA.out];decide),HBA.out]
        clear hw
        go_wp2_with fail
        refine wp_region_S (fun w'=>∃u,w'=over (wr) u) [5] [(0,0),(0,1),(0,2),(0,3),(0,4),(2,5)] (by kernel_rfl) (by kernel_rfl) (by exact ⟨_,below_over (by repeat (first|assumption|exact Below.refl _ _|refine keep_drew ?_|refine keep_alloc ?_ _|refine keep_trans ?_ (by assumption)))⟩) ?_
        dsimp only[pickOps,nthOp]
        repeat (first|(refine wpS_skip rfl (fun K hK=>?_);go_big_quiet_op;refine hK _ ?_;clear hK K)|(refine wpS_quiet rfl rfl (fun K hK=>?_);go_big_quiet_op;refine hK _ ?_;clear hK K))
        refine wpS_late _ _ _ rfl ?_
        dsimp only[List.map]
        go_wp2_with ((go_at_call 93;refine (HD.out _ (keep_drew (Below.refl _ _))).mono ?_;rintro _ w3 ⟨rfl,hb3⟩))
        refine NoPanic.normal ?_
        go_wp2
        go_ret
        exact ⟨ret_int HR.out.symm,keep_trans fB (hbr.trans (((keep_drew (Below.refl _ _)).trans hb3).mono hbr.size))⟩
       | false =>
        rw[hw] at HD
        rw[hw,if_neg (by decide)] at HBA
        clear hw
        go_wp2_with fail
        refine wp_region_S (fun w'=>∃u,w'=over (wr) u) [5] [(0,0),(0,1),(0,2),(0,3),(0,4),(2,5)] (by kernel_rfl) (by kernel_rfl) (by exact ⟨_,below_over (by repeat (first|assumption|exact Below.refl _ _|refine keep_drew ?_|refine keep_alloc ?_ _|refine keep_trans ?_ (by assumption)))⟩) ?_
        dsimp only[pickOps,nthOp]
        repeat (first|(refine wpS_skip rfl (fun K hK=>?_);go_big_quiet_op;refine hK _ ?_;clear hK K)|(refine wpS_quiet rfl rfl (fun K hK=>?_);go_big_quiet_op;refine hK _ ?_;clear hK K))
        refine wpS_late _ _ _ rfl ?_
        dsimp only[List.map]
        go_wp2_with ((go_at_call 93;refine (HD.out _ (keep_drew (Below.refl _ _))).mono ?_;rintro _ w3 ⟨rfl,hb3⟩))
        refine NoPanic.normal ?_
        go_wp2
        go_roundw
        case rel=>exact ⟨j+1,by omega,by go_num,upto_snoc hn2.out HBA.out,hbr.trans (((keep_drew (Below.refl _ _)).trans hb3).mono hbr.size)⟩
        case measure=>simp[intOf];omega
      ·have e:j=k:=by omega
       subst e
       have HR:Hid (se=0):=by unfold Hid;rw[HS2.out];exact errs_none hn2.out
       go_wp2
       go_ret
       exact ⟨ret_int HR.out.symm,keep_trans fB hbr⟩
end
end Go.Proofs.YtcblpobiefmjmaaGreat
