/- Texts J31 to J39 of this proof, in one file. -/
import Derived.Test.YtceombamoikhdaaW01
import Derived.Test.YtceombamoikhdaaW03
import Derived.Test.YtceombamoikhdaaW07
namespace Go.Proofs.Ytceombamoikhdaa
set_option maxRecDepth 100000
set_option maxHeartbeats 16000000
section
open Go Go.RowKit
attribute [local go_sem] over_cell
attribute [local go_sem] Oper.semAt_some
theorem IC.own {w:World} {B:Nat} {a:Option Addr} {n c:Nat} {xs:List Int} (h:w.ownsRow B 3 1 (.slice a n c) n (xs.map (Value.int .i64))) (hl:xs.length=n) (hs:n≤17592186044416):IC w a n xs∧n≤c:=by
 subst hl
 exact IC.of_owns h hs
theorem rowZ_num {n:Nat} {cs:List Int} (S:Sq n cs):NumL n (rowZ n cs):=⟨by
 unfold rowZ
 rw[List.length_take,S.len]
 exact Nat.min_eq_left (Nat.le_mul_of_pos_right n S.n1),fun x hx=>by
 obtain ⟨i,hi,e⟩:=List.getElem_of_mem (List.mem_of_mem_take hx)
 have:=S.num i
 rw[List.getElem?_eq_getElem hi,Option.getD_some,e] at this
 exact this⟩
def colTo (n:Nat) (cs:List Int) (k:Nat):List Int:=(List.range k).map fun i=>cs[i*n]?.getD 0
theorem colTo_succ (n:Nat) (cs:List Int) (k:Nat):colTo n cs (k+1)=colTo n cs k++[cs[k*n]?.getD 0]:=by unfold colTo;rw[List.range_succ,List.map_append];rfl
theorem colTo_len (n:Nat) (cs:List Int) (k:Nat):(colTo n cs k).length=k:=by simp[colTo]
theorem own_apart {w:World} {B n b:Nat} {t:TypeId} {v:Value} {xs:List Value} (h:w.ownsRow B t 1 v n xs) (hb:b<B):v.ownBlock≠some b:=fun e=>absurd (h.lt _ e).1 (by omega)
theorem alloc_lt (w:World) (o:Obj):w.heap.size<(w.alloc o).heap.size:=by rw[World.size_alloc];omega
def RedI (W0:World) (b9 m c5:Nat) (n:Int) (a5:Option Addr) (by1:List Int) (W:World):Prop :=
 W.heap[b9]?=some (.cells #[.int .i64 n,.int .i64 n,.slice a5 m c5] 24 (0,0))∧W.ownsRow W0.heap.size 3 1 (.slice a5 m c5) m (by1.map (Value.int .i64))∧Below W0.heap.size W0 W∧W0.heap.size≤b9
theorem reduced_c (n:Nat) (a:Option Addr) (m c:Nat) (cs:List Int) (w:World) (h:IC w a m cs) (hcap:m≤c) (L:Latin n cs) :
  Calls Try.prog 37 #[.agg #[.int .i64 (n:Int),.int .i64 (n:Int),.slice a m c]] w (GridM w (n:Int) (n:Int) (reduL (-1) n cs)):=by
 have hm:=h.small
 have S:=L.sq
 have hn1:=S.n1
 have hn2:=S.n2
 have hmq:m=n*n:=by rw[← h.len,S.len]
 have hmb:m≤256:=by rw[hmq];exact Nat.le_trans (Nat.mul_le_mul hn2 hn2) (by decide)
 have hnm:n≤m:=by rw[hmq];exact Nat.le_mul_of_pos_right n hn1
 have HMQ:=Lib.hid hmq
 obtain ⟨by1,hby1⟩:∃x,x=isoL (-1) n (sameL n) (rowZ n cs) (sameL n) cs:=⟨_,rfl⟩
 have hre:reduL (-1) n cs=isoL (-1) n (colZ n by1) (sameL n) (sameL n) by1:=by unfold reduL;rw[hby1]
 have LB:Latin n by1:=by rw[hby1];exact iso_latin L sameL_perm L.rowZ sameL_perm
 have HCZ:=Lib.hid LB.colZ
 have hbl:by1.length=m:=by rw[hby1,iso_len,hmq]
 rw[hre]
 have HBY:=Lib.hid hby1
 have SB:=LB.sq
 have HSM:=Lib.hid (fun W=>same4_c n W (by omega))
 have HI1:=Lib.hid (fun W (hw:Below w.heap.size w W) (ar:Option Addr) (cr:Nat) (a9:Option Addr) (c9:Nat) (h1:IC W ar n (sameL n)) (h2:IC W a9 n (sameL n))=>isotope_c n a m c cs ar cr (sameL n) a c (rowZ n cs) a9 c9 (sameL n) W (h.mono hw) S h1 (sameL_num n) (show IC W a n (rowZ n cs) from (h.mono hw).take n hnm) (rowZ_num S) h2 (sameL_num n))
 rw[← hby1] at HI1
 clear hmq hre hby1
 obtain ⟨i0,hi,hz0,hz1,hz2⟩:=info_parts infoInt
 go_enter Try.func37,Try.ntmps37
 go_upto_region 1 with fail
 have fsz:((w.alloc (.cells #[.int .i64 (n:Int),.int .i64 (n:Int),.slice a m c] 24)).alloc (.cells #[.int .i64 0,.int .i64 0,.slice none 0 0] 24)).heap.size=w.heap.size+2:=by simp only[World.size_alloc] <;> omega
 have fB:Below w.heap.size w ((w.alloc (.cells #[.int .i64 (n:Int),.int .i64 (n:Int),.slice a m c] 24)).alloc (.cells #[.int .i64 0,.int .i64 0,.slice none 0 0] 24)):=((Below.refl _ _).alloc (Nat.le_refl _) _).alloc (by simp only[World.size_alloc];omega) _
 have fq0:((w.alloc (.cells #[.int .i64 (n:Int),.int .i64 (n:Int),.slice a m c] 24)).alloc (.cells #[.int .i64 0,.int .i64 0,.slice none 0 0] 24)).heap[w.heap.size]?=some (.cells #[.int .i64 (n:Int),.int .i64 (n:Int),.slice a m c] 24 (0,0)):=by have h:=World.alloc_heap_new w (.cells #[.int .i64 (n:Int),.int .i64 (n:Int),.slice a m c] 24);exact (Below.heap_alloc _ _ _ (by simp only[World.size_alloc];omega)).trans (h)
 have fq1:((w.alloc (.cells #[.int .i64 (n:Int),.int .i64 (n:Int),.slice a m c] 24)).alloc (.cells #[.int .i64 0,.int .i64 0,.slice none 0 0] 24)).heap[w.heap.size+1]?=some (.cells #[.int .i64 0,.int .i64 0,.slice none 0 0] 24 (0,0)):=by have h:=World.alloc_heap_new (w.alloc (.cells #[.int .i64 (n:Int),.int .i64 (n:Int),.slice a m c] 24)) (.cells #[.int .i64 0,.int .i64 0,.slice none 0 0] 24);simp only[World.size_alloc] at h;exact h
 generalize ((w.alloc (.cells #[.int .i64 (n:Int),.int .i64 (n:Int),.slice a m c] 24)).alloc (.cells #[.int .i64 0,.int .i64 0,.slice none 0 0] 24))=W0 at fsz fB fq0 fq1 ⊢
 obtain ⟨x0,x1,x2,xl⟩:=c3_of fq0
 have Q0:=Lib.hid fq0
 have Q1:=Lib.hid fq1
 have hl1:=q_lt fq1
 clear fsz fq0 fq1 h
 have hnmI:(n:Int)≤(m:Int):=by omega
 have hncI:(n:Int)≤(c:Int):=by omega
 go_upto_region 2 with fail
 go_cut [4] from 9 to 18 (fun v wx=>∃(a5:Option Addr) (c5 b9:Nat),v = .pointer (some ⟨b9,0,none⟩)∧Hid (RedI W0 b9 m c5 (n:Int) a5 by1 wx))
 case first =>
  refine wp_region_tree (fun w'=>∃u,w'=over (W0) u) [11] (.fork [0,1,3,4,5,6,7] 2 10 (.fork [] 8 10 (.fork [] 9 10 (.leaf [(1,10),(2,11)]) (.leaf [(1,9),(2,11)])) (.leaf [(1,8),(1,9),(2,11)])) (.leaf [(1,2),(1,8),(1,9),(2,11)])) (by kernel_rfl) (by kernel_rfl) (by exact ⟨_,below_over (by repeat (first|assumption|exact Below.refl _ _|refine keep_drew ?_|refine keep_alloc ?_ _|refine keep_trans ?_ (by assumption)))⟩) ?_
  all_goals try (refine ⟨?_,?_⟩ <;> dsimp only[List.map,List.cons_append,List.nil_append,pickOps,nthOp])
  all_goals repeat (first|(refine wpS_skip rfl (fun K hK=>?_);go_big_quiet_op;refine hK _ ?_;clear hK K)|(refine wpS_quiet rfl rfl (fun K hK=>?_);go_big_quiet_op;refine hK _ ?_;clear hK K)|(refine wpS_loud ?_;go_wp2_with (first|(go_at_call 55;have hX:=hb1;clear hX;refine (HSM.out _).mono ?_;rintro _ w2 ⟨as2,cs2,rfl,hos2,hb2⟩)|(go_at_call 55;refine (HSM.out _).mono ?_;rintro _ w1 ⟨as1,cs1,rfl,hos1,hb1⟩)|(go_at_call 54;refine (HI1.out _ (by (repeat (first|assumption|exact Below.refl _ _|refine keep_drew ?_|refine keep_alloc ?_ _|refine keep_trans ?_ (by assumption)))) _ _ _ _ ((IC.own hos1 (sameL_len n) (by omega)).1.mono (by (repeat (first|assumption|exact Below.refl _ _|refine keep_drew ?_|refine keep_alloc ?_ _|refine keep_trans ?_ (by assumption))))) ((IC.own hos2 (sameL_len n) (by omega)).1.mono (by (repeat (first|assumption|exact Below.refl _ _|refine keep_drew ?_|refine keep_alloc ?_ _|refine keep_trans ?_ (by assumption)))))).mono ?_;rintro _ w5 ⟨a5,c5,rfl,hos5,hb5⟩;rw[hbl] at hos5;rw[hbl];have HB5:Hid (Below W0.heap.size W0 w5):=(by unfold Hid;(repeat (first|assumption|exact Below.refl _ _|refine keep_drew ?_|refine keep_alloc ?_ _|refine keep_trans ?_ (by assumption))));have HOS:Hid (w5.ownsRow W0.heap.size 3 1 (.slice a5 m c5) m (by1.map (Value.int .i64))):=owns_base hos5 (Below.size (B:=W0.heap.size) (by (repeat (first|assumption|exact Below.refl _ _|refine keep_drew ?_|refine keep_alloc ?_ _|refine keep_trans ?_ (by assumption)))))));refine ⟨?_,?_⟩;focus (exact ⟨_,below_over (by repeat (first|assumption|exact Below.refl _ _|refine keep_drew ?_|refine keep_alloc ?_ _|refine keep_set ?_ (by first|omega|(dsimp only;omega)) _|refine keep_trans ?_ (by assumption)))⟩)))
  all_goals try refine wpTr_end ?_
  all_goals try (refine ⟨?_,?_⟩ <;> dsimp only[List.map,List.cons_append,List.nil_append,pickOps,nthOp])
  all_goals repeat (first|(refine wpS_skip rfl (fun K hK=>?_);go_big_quiet_op;refine hK _ ?_;clear hK K)|(refine wpS_quiet rfl rfl (fun K hK=>?_);go_big_quiet_op;refine hK _ ?_;clear hK K)|(refine wpS_loud ?_;go_wp2_with (first|(go_at_call 55;have hX:=hb1;clear hX;refine (HSM.out _).mono ?_;rintro _ w2 ⟨as2,cs2,rfl,hos2,hb2⟩)|(go_at_call 55;refine (HSM.out _).mono ?_;rintro _ w1 ⟨as1,cs1,rfl,hos1,hb1⟩)|(go_at_call 54;refine (HI1.out _ (by (repeat (first|assumption|exact Below.refl _ _|refine keep_drew ?_|refine keep_alloc ?_ _|refine keep_trans ?_ (by assumption)))) _ _ _ _ ((IC.own hos1 (sameL_len n) (by omega)).1.mono (by (repeat (first|assumption|exact Below.refl _ _|refine keep_drew ?_|refine keep_alloc ?_ _|refine keep_trans ?_ (by assumption))))) ((IC.own hos2 (sameL_len n) (by omega)).1.mono (by (repeat (first|assumption|exact Below.refl _ _|refine keep_drew ?_|refine keep_alloc ?_ _|refine keep_trans ?_ (by assumption)))))).mono ?_;rintro _ w5 ⟨a5,c5,rfl,hos5,hb5⟩;rw[hbl] at hos5;rw[hbl];have HB5:Hid (Below W0.heap.size W0 w5):=(by unfold Hid;(repeat (first|assumption|exact Below.refl _ _|refine keep_drew ?_|refine keep_alloc ?_ _|refine keep_trans ?_ (by assumption))));have HOS:Hid (w5.ownsRow W0.heap.size 3 1 (.slice a5 m c5) m (by1.map (Value.int .i64))):=owns_base hos5 (Below.size (B:=W0.heap.size) (by (repeat (first|assumption|exact Below.refl _ _|refine keep_drew ?_|refine keep_alloc ?_ _|refine keep_trans ?_ (by assumption)))))));refine ⟨?_,?_⟩;focus (exact ⟨_,below_over (by repeat (first|assumption|exact Below.refl _ _|refine keep_drew ?_|refine keep_alloc ?_ _|refine keep_set ?_ (by first|omega|(dsimp only;omega)) _|refine keep_trans ?_ (by assumption)))⟩)))
  all_goals try refine wpTr_end ?_
  all_goals try (refine ⟨?_,?_⟩ <;> dsimp only[List.map,List.cons_append,List.nil_append,pickOps,nthOp])
  all_goals repeat (first|(refine wpS_skip rfl (fun K hK=>?_);go_big_quiet_op;refine hK _ ?_;clear hK K)|(refine wpS_quiet rfl rfl (fun K hK=>?_);go_big_quiet_op;refine hK _ ?_;clear hK K)|(refine wpS_loud ?_;go_wp2_with (first|(go_at_call 55;have hX:=hb1;clear hX;refine (HSM.out _).mono ?_;rintro _ w2 ⟨as2,cs2,rfl,hos2,hb2⟩)|(go_at_call 55;refine (HSM.out _).mono ?_;rintro _ w1 ⟨as1,cs1,rfl,hos1,hb1⟩)|(go_at_call 54;refine (HI1.out _ (by (repeat (first|assumption|exact Below.refl _ _|refine keep_drew ?_|refine keep_alloc ?_ _|refine keep_trans ?_ (by assumption)))) _ _ _ _ ((IC.own hos1 (sameL_len n) (by omega)).1.mono (by (repeat (first|assumption|exact Below.refl _ _|refine keep_drew ?_|refine keep_alloc ?_ _|refine keep_trans ?_ (by assumption))))) ((IC.own hos2 (sameL_len n) (by omega)).1.mono (by (repeat (first|assumption|exact Below.refl _ _|refine keep_drew ?_|refine keep_alloc ?_ _|refine keep_trans ?_ (by assumption)))))).mono ?_;rintro _ w5 ⟨a5,c5,rfl,hos5,hb5⟩;rw[hbl] at hos5;rw[hbl];have HB5:Hid (Below W0.heap.size W0 w5):=(by unfold Hid;(repeat (first|assumption|exact Below.refl _ _|refine keep_drew ?_|refine keep_alloc ?_ _|refine keep_trans ?_ (by assumption))));have HOS:Hid (w5.ownsRow W0.heap.size 3 1 (.slice a5 m c5) m (by1.map (Value.int .i64))):=owns_base hos5 (Below.size (B:=W0.heap.size) (by (repeat (first|assumption|exact Below.refl _ _|refine keep_drew ?_|refine keep_alloc ?_ _|refine keep_trans ?_ (by assumption)))))));refine ⟨?_,?_⟩;focus (exact ⟨_,below_over (by repeat (first|assumption|exact Below.refl _ _|refine keep_drew ?_|refine keep_alloc ?_ _|refine keep_set ?_ (by first|omega|(dsimp only;omega)) _|refine keep_trans ?_ (by assumption)))⟩)))
  all_goals try refine wpTr_end ?_
  all_goals try dsimp only[wpTr,pickOps,nthOp]
  all_goals repeat (first|(refine wpS_skip rfl (fun K hK=>?_);go_big_quiet_op;refine hK _ ?_;clear hK K)|(refine wpS_quiet rfl rfl (fun K hK=>?_);go_big_quiet_op;refine hK _ ?_;clear hK K)|(refine wpS_loud ?_;go_wp2_with (first|(go_at_call 55;have hX:=hb1;clear hX;refine (HSM.out _).mono ?_;rintro _ w2 ⟨as2,cs2,rfl,hos2,hb2⟩)|(go_at_call 55;refine (HSM.out _).mono ?_;rintro _ w1 ⟨as1,cs1,rfl,hos1,hb1⟩)|(go_at_call 54;refine (HI1.out _ (by (repeat (first|assumption|exact Below.refl _ _|refine keep_drew ?_|refine keep_alloc ?_ _|refine keep_trans ?_ (by assumption)))) _ _ _ _ ((IC.own hos1 (sameL_len n) (by omega)).1.mono (by (repeat (first|assumption|exact Below.refl _ _|refine keep_drew ?_|refine keep_alloc ?_ _|refine keep_trans ?_ (by assumption))))) ((IC.own hos2 (sameL_len n) (by omega)).1.mono (by (repeat (first|assumption|exact Below.refl _ _|refine keep_drew ?_|refine keep_alloc ?_ _|refine keep_trans ?_ (by assumption)))))).mono ?_;rintro _ w5 ⟨a5,c5,rfl,hos5,hb5⟩;rw[hbl] at hos5;rw[hbl];have HB5:Hid (Below W0.heap.size W0 w5):=(by unfold Hid;(repeat (first|assumption|exact Below.refl _ _|refine keep_drew ?_|refine keep_alloc ?_ _|refine keep_trans ?_ (by assumption))));have HOS:Hid (w5.ownsRow W0.heap.size 3 1 (.slice a5 m c5) m (by1.map (Value.int .i64))):=owns_base hos5 (Below.size (B:=W0.heap.size) (by (repeat (first|assumption|exact Below.refl _ _|refine keep_drew ?_|refine keep_alloc ?_ _|refine keep_trans ?_ (by assumption)))))));refine ⟨?_,?_⟩;focus (exact ⟨_,below_over (by repeat (first|assumption|exact Below.refl _ _|refine keep_drew ?_|refine keep_alloc ?_ _|refine keep_set ?_ (by first|omega|(dsimp only;omega)) _|refine keep_trans ?_ (by assumption)))⟩)))
  all_goals refine wpS_late _ _ _ rfl ?_
  all_goals dsimp only[List.map]
  ·go_wp2_with fail
   refine NoPanic.normal ?_
   go_wp2_with fail
   go_meet
   exact ⟨a5,c5,w5.heap.size,rfl,World.alloc_heap_new _ _,HOS.out.alloc _,HB5.out.alloc HB5.out.size _,HB5.out.size⟩
  ·have hZ:=keepq hb5 (World.alloc_heap_new w2 (.cells #[.int .i64 0,.int .i64 0,.slice none 0 0] 24))
   have NZ:=hZ
   obtain ⟨z0,z1,z2,zl⟩:=c3_of NZ
   obtain ⟨zf0,zf1,zf2⟩:=f3_of NZ
   have HW:=Lib.hid (HB5.out)
   have HOW:=Lib.hid (HOS.out)
   have HNE:Hid (Value.ownBlock (.slice a5 m c5)≠some (w2.heap.size)):=own_apart hos5 (alloc_lt _ _)
   have HGE:Hid (W0.heap.size≤w2.heap.size):=by first|exact Nat.le_refl _|exact Below.size (B:=W0.heap.size) (by (repeat (first|assumption|exact Below.refl _ _|refine keep_drew ?_|refine keep_alloc ?_ _|refine keep_trans ?_ (by assumption))))
   go_wp2_with fail
   refine NoPanic.normal ?_
   go_wp2_with fail
   go_meet
   refine ⟨a5,c5,w2.heap.size,rfl,st3_q NZ,st3_own HOW.out HNE.out,st3_below HW.out HGE.out,HGE.out⟩
  ·have hZ:=keepq hb5 (keepq hb2 (World.alloc_heap_new w1 (.cells #[.int .i64 0,.int .i64 0,.slice none 0 0] 24)))
   have NZ:=hZ
   obtain ⟨z0,z1,z2,zl⟩:=c3_of NZ
   obtain ⟨zf0,zf1,zf2⟩:=f3_of NZ
   have HW:=Lib.hid (HB5.out)
   have HOW:=Lib.hid (HOS.out)
   have HNE:Hid (Value.ownBlock (.slice a5 m c5)≠some (w1.heap.size)):=own_apart hos5 (Nat.lt_of_lt_of_le (alloc_lt _ _) hb2.size)
   have HGE:Hid (W0.heap.size≤w1.heap.size):=by first|exact Nat.le_refl _|exact Below.size (B:=W0.heap.size) (by (repeat (first|assumption|exact Below.refl _ _|refine keep_drew ?_|refine keep_alloc ?_ _|refine keep_trans ?_ (by assumption))))
   go_wp2_with fail
   refine NoPanic.normal ?_
   go_wp2_with fail
   go_meet
   refine ⟨a5,c5,w1.heap.size,rfl,st3_q NZ,st3_own HOW.out HNE.out,st3_below HW.out HGE.out,HGE.out⟩
  ·have hZ:w5.heap[W0.heap.size]?=some (.cells #[.int .i64 0,.int .i64 0,.slice none 0 0] 24 (0,0)):=keepq hb5 (keepq hb2 (keepq hb1 (World.alloc_heap_new W0.drew (.cells #[.int .i64 0,.int .i64 0,.slice none 0 0] 24))))
   have NZ:=hZ
   obtain ⟨z0,z1,z2,zl⟩:=c3_of NZ
   obtain ⟨zf0,zf1,zf2⟩:=f3_of NZ
   have HW:=Lib.hid (HB5.out)
   have HOW:=Lib.hid (HOS.out)
   have HNE:Hid (Value.ownBlock (.slice a5 m c5)≠some (W0.heap.size)):=own_apart hos5 (Nat.lt_of_lt_of_le (alloc_lt _ _) (Nat.le_trans hb1.size hb2.size))
   have HGE:Hid (W0.heap.size≤W0.heap.size):=by first|exact Nat.le_refl _|exact Below.size (B:=W0.heap.size) (by (repeat (first|assumption|exact Below.refl _ _|refine keep_drew ?_|refine keep_alloc ?_ _|refine keep_trans ?_ (by assumption))))
   go_wp2_with fail
   refine NoPanic.normal ?_
   go_wp2_with fail
   go_meet
   refine ⟨a5,c5,W0.heap.size,rfl,st3_q NZ,st3_own HOW.out HNE.out,st3_below HW.out HGE.out,HGE.out⟩
 case rest =>
  obtain ⟨a5,c5,b9,rfl,hI⟩:=hcut
  clear x0 x1 x2 xl
  obtain ⟨q9,hown,hbc,hb9⟩:=hI.out
  have HIC:=Lib.hid (IC.own hown hbl (by omega))
  have HAT:=Lib.hid (fun (k:Nat) (hk:k<n) W (hb:Below wc.heap.size wc W)=>show Calls Try.prog 56 #[.agg #[.int .i64 (n:Int),.int .i64 (n:Int),.slice a5 m c5],.int .i64 (k:Int),.int .i64 0] W (fun e w'=>e = .returned (.int .i64 (by1[k*n]?.getD 0))∧Below W.heap.size W w') from lat_c (n:Int) n k 0 a5 m c5 by1 W (HIC.out.1.mono hb) (by omega) (by omega) (by omega) (by rw[HMQ.out];exact gcell_lt hk hn1))
  have HSZ:Hid (W0.heap.size≤wc.heap.size):=hbc.size
  have hbcw:Hid (Below w.heap.size w wc):=keep_trans fB hbc
  have Q9:=Lib.hid q9
  have Q1':=Lib.hid (keepq hbc Q1.out)
  clear hown q9 hb9 hbc
  go_wp2_with fail
  go_loopw [5,6,20] (fun v _ s wr=>∃k:Nat,k≤n∧s = .int .i64 k∧wr.ownsRow wc.heap.size 3 1 v k ((colTo n by1 k).map (Value.int .i64))∧Below wc.heap.size wc wr) (fun _ _ s _=>n - (intOf s).toNat)
  case atStart=>exact ⟨0,by omega,rfl,World.ownsRow_nil _ _ _ _,Below.refl _ _⟩
  case round =>
   obtain ⟨k,hk,rfl,hown,hbr⟩:=hrel
   have hsz:=hbr.size
   obtain ⟨av,cv,rfl⟩:=owns_shape hown
   have HO:=Lib.hid hown
   clear hown
   obtain ⟨x0,x1,x2,xl⟩:=c3_of (keepq hbr Q9.out)
   by_cases hlt:k<n
   ·have HSU:=Lib.hid (colTo_succ n by1 k)
    have HA:=Lib.hid (HAT.out k hlt wr hbr)
    obtain ⟨x,hx⟩:∃x,x=by1[k*n]?.getD 0:=⟨_,rfl⟩
    rw[← hx] at HA HSU
    clear hx
    go_wp2_with (first|(go_at_call 56;refine HA.out.mono ?_;rintro _ w1 ⟨rfl,hb1⟩;have HO1:=Lib.hid (owns_keep HO.out (fun k e hl=>hb1.block k hl));have hs1:=hb1.size)|(at_builtin;refine wpList_append_any _ rfl _ _ 22 rfl wc.heap.size 3 i0 (.int .i64 0) 8 Try.underlying22 hi hz0 hz1 hz2 rfl _ _ _ rfl (HO1.out.alloc _) (by simp only[World.size_alloc];omega) _ _ _ [.int .i64 x] rfl rfl (.inl ⟨_,rfl,cell_one_new _ _ _⟩) (by simp[Value.oneCell']) (by unfold maxLen;omega) (by omega) ?_;intro v7 w7 hown7 hst7 hk7;have hbw:=hst7.below' (by simp only[World.size_alloc];omega) ((keep_trans hbr hb1).alloc (by omega) _) (fun k e=>(HO1.out.lt k e).1)))
    go_roundw
    case rel=>exact ⟨k+1,by omega,by go_num,by rw[HSU.out,List.map_append];exact hown7,hbw⟩
    case measure=>simp[intOf];omega
   ·have e:k=n:=by omega
    subst e
    have HCL:=Lib.hid (IC.own HO.out (colTo_len k by1 k) (by omega))
    have HI2:=Lib.hid (fun W (hw:Below wr.heap.size wr W) (ar:Option Addr) (cr:Nat) (a9:Option Addr) (c9:Nat) (h1:IC W ar k (sameL k)) (h2:IC W a9 k (sameL k))=>isotope_c k a5 m c5 by1 av cv (colTo k by1 k) ar cr (sameL k) a9 c9 (sameL k) W (HIC.out.1.mono (keep_trans hbr hw)) SB (HCL.out.1.mono hw) ⟨colTo_len k by1 k,fun x hx=>HCZ.out.num x hx⟩ h1 (sameL_num k) h2 (sameL_num k))
    have hlen2:(isoL (-1) k (colTo k by1 k) (sameL k) (sameL k) by1).length=m:=by rw[iso_len,HMQ.out]
    have HEQ:Hid (isoL (-1) k (colZ k by1) (sameL k) (sameL k) by1=isoL (-1) k (colTo k by1 k) (sameL k) (sameL k) by1):=rfl
    have P1:=Lib.hid (keepq hbr Q1'.out)
    have hbw:=keep_trans hbcw.out hbr
    go_wp2_with fail
    refine wp_region_S (fun w'=>∃u,w'=over (wr) u) [7,6] [(0,0),(0,1),(0,2),(0,4),(1,3),(1,5),(2,6),(2,7)] (by kernel_rfl) (by kernel_rfl) (by exact ⟨_,below_over (by repeat (first|assumption|exact Below.refl _ _|refine keep_drew ?_|refine keep_alloc ?_ _|refine keep_trans ?_ (by assumption)))⟩) ?_
    dsimp only[pickOps,nthOp]
    repeat (first|(refine wpS_skip rfl (fun K hK=>?_);go_big_quiet_op;refine hK _ ?_;clear hK K)|(refine wpS_quiet rfl rfl (fun K hK=>?_);go_big_quiet_op;refine hK _ ?_;clear hK K)|(refine wpS_loud ?_;go_wp2_with (first|(go_at_call 55;have hX:=hb1;clear hX;refine (HSM.out _).mono ?_;rintro _ w2 ⟨as2,cs2,rfl,hos2,hb2⟩)|(go_at_call 55;refine (HSM.out _).mono ?_;rintro _ w1 ⟨as1,cs1,rfl,hos1,hb1⟩)|(go_at_call 54;refine (HI2.out _ (by (repeat (first|assumption|exact Below.refl _ _|refine keep_drew ?_|refine keep_alloc ?_ _|refine keep_trans ?_ (by assumption)))) _ _ _ _ ((IC.own hos1 (sameL_len k) (by omega)).1.mono (by (repeat (first|assumption|exact Below.refl _ _|refine keep_drew ?_|refine keep_alloc ?_ _|refine keep_trans ?_ (by assumption))))) ((IC.own hos2 (sameL_len k) (by omega)).1.mono (by (repeat (first|assumption|exact Below.refl _ _|refine keep_drew ?_|refine keep_alloc ?_ _|refine keep_trans ?_ (by assumption)))))).mono ?_;rintro _ w5 ⟨a9,c9,rfl,hos5,hb5⟩;rw[hlen2] at hos5;rw[hlen2];have HB5:Hid (Below wr.heap.size wr w5):=(by unfold Hid;(repeat (first|assumption|exact Below.refl _ _|refine keep_drew ?_|refine keep_alloc ?_ _|refine keep_trans ?_ (by assumption))));have NZ:=keepq HB5.out P1.out;obtain ⟨z0,z1,z2,zl⟩:=c3_of NZ;obtain ⟨zf0,zf1,zf2⟩:=f3_of NZ));refine ⟨?_,?_⟩;focus (exact ⟨_,below_over (by repeat (first|assumption|exact Below.refl _ _|refine keep_drew ?_|refine keep_alloc ?_ _|refine keep_trans ?_ (by assumption)))⟩)))
    refine wpS_late _ _ _ rfl ?_
    dsimp only[List.map]
    go_wp2_with (first|(go_at_call 55;have hX:=hb1;clear hX;refine (HSM.out _).mono ?_;rintro _ w2 ⟨as2,cs2,rfl,hos2,hb2⟩)|(go_at_call 55;refine (HSM.out _).mono ?_;rintro _ w1 ⟨as1,cs1,rfl,hos1,hb1⟩)|(go_at_call 54;refine (HI2.out _ (by (repeat (first|assumption|exact Below.refl _ _|refine keep_drew ?_|refine keep_alloc ?_ _|refine keep_trans ?_ (by assumption)))) _ _ _ _ ((IC.own hos1 (sameL_len k) (by omega)).1.mono (by (repeat (first|assumption|exact Below.refl _ _|refine keep_drew ?_|refine keep_alloc ?_ _|refine keep_trans ?_ (by assumption))))) ((IC.own hos2 (sameL_len k) (by omega)).1.mono (by (repeat (first|assumption|exact Below.refl _ _|refine keep_drew ?_|refine keep_alloc ?_ _|refine keep_trans ?_ (by assumption)))))).mono ?_;rintro _ w5 ⟨a9,c9,rfl,hos5,hb5⟩;rw[hlen2] at hos5;rw[hlen2];have HB5:Hid (Below wr.heap.size wr w5):=(by unfold Hid;(repeat (first|assumption|exact Below.refl _ _|refine keep_drew ?_|refine keep_alloc ?_ _|refine keep_trans ?_ (by assumption))));have NZ:=keepq HB5.out P1.out;obtain ⟨z0,z1,z2,zl⟩:=c3_of NZ;obtain ⟨zf0,zf1,zf2⟩:=f3_of NZ))
    refine NoPanic.normal ?_
    have hz5:wr.heap.size≤w2.heap.size:=Nat.le_trans hb1.size hb2.size
    have g3:=st3_q (x0 := .int .i64 (k:Int)) (x1 := .int .i64 (k:Int)) (x2 := .slice a9 m c9) NZ
    have hown3:=st3_own (x0 := .int .i64 (k:Int)) (x1 := .int .i64 (k:Int)) (x2 := .slice a9 m c9) hos5 (own_apart hos5 (b:=w.heap.size+1) (Nat.lt_of_lt_of_le (q_lt P1.out) hz5))
    have hb3:=st3_below (x0 := .int .i64 (k:Int)) (x1 := .int .i64 (k:Int)) (x2 := .slice a9 m c9) (b:=w.heap.size+1) (keep_trans hbw HB5.out) (Nat.le_succ _)
    have hge:=hbw.size
    clear z0 z1 z2 zl zf0 zf1 zf2
    obtain ⟨z0,z1,z2,zl⟩:=c3_of g3
    go_wp2_with fail
    refine bodyPost_ret (v := .agg #[.int .i64 (k:Int),.int .i64 (k:Int),.slice a9 m c9]) ?_ rfl ⟨a9,c9,by rw[HEQ.out,hlen2],by rw[HEQ.out,hlen2];exact owns_base hown3 (Nat.le_trans hge hz5),hb3⟩
    simp[results,Try.f37,go_sem,z0,z1,z2]
-- a zero grid and an error come back;the result's box is bR
-- the arm of a call that makes a grid: its box holds zeros
def redL (r C:Int) (cs:List Int):List Int:=if sqE 0 r C cs=0 then reduL (-1) r.toNat cs else []
theorem reduce_c (r C:Int) (a:Option Addr) (m c:Nat) (cs:List Int) (w:World) (h:IC w a m cs) (hcap:m≤c):Calls Try.prog 11 #[.agg #[.int .i64 r,.int .i64 C,.slice a m c]] w (GridE w (if sqE 0 r C cs=0 then r else 0) (if sqE 0 r C cs=0 then r else 0) (redL r C cs) (sqE 0 r C cs)):=by
 have HK:=Lib.hid (fun W (hb:Below w.heap.size w W)=>latcheck_c r C a m c cs W (h.mono hb))
 by_cases h0:sqE 0 r C cs=0
 ·have hcl:redL r C cs=reduL (-1) r.toNat cs:=if_pos h0
  rw[if_pos h0,h0]
  rw[h0] at HK
  obtain ⟨N,rfl,rfl,L⟩:=sqE_ok h0
  rw[show ((N:Int)).toNat=N from rfl] at hcl
  have HM:=Lib.hid (fun W (hb:Below w.heap.size w W)=>reduced_c N a m c cs W (h.mono hb) hcap L)
  rw[← hcl] at HM
  generalize redL (N:Int) (N:Int) cs=ds at HM ⊢
  clear h0 h hcl
  go_enter Try.func11,Try.ntmps11
  go_wp2_with fail
  have fsz:((w.alloc (.cells #[.int .i64 (N:Int),.int .i64 (N:Int),.slice a m c] 24)).alloc (.cells #[.int .i64 0,.int .i64 0,.slice none 0 0] 24)).heap.size=w.heap.size+2:=by simp only[World.size_alloc] <;> omega
  have fB:Below w.heap.size w ((w.alloc (.cells #[.int .i64 (N:Int),.int .i64 (N:Int),.slice a m c] 24)).alloc (.cells #[.int .i64 0,.int .i64 0,.slice none 0 0] 24)):=((Below.refl _ _).alloc (Nat.le_refl _) _).alloc (by simp only[World.size_alloc];omega) _
  have fq0:((w.alloc (.cells #[.int .i64 (N:Int),.int .i64 (N:Int),.slice a m c] 24)).alloc (.cells #[.int .i64 0,.int .i64 0,.slice none 0 0] 24)).heap[w.heap.size]?=some (.cells #[.int .i64 (N:Int),.int .i64 (N:Int),.slice a m c] 24 (0,0)):=by have h:=World.alloc_heap_new w (.cells #[.int .i64 (N:Int),.int .i64 (N:Int),.slice a m c] 24);exact (Below.heap_alloc _ _ _ (by simp only[World.size_alloc];omega)).trans (h)
  have fq1:((w.alloc (.cells #[.int .i64 (N:Int),.int .i64 (N:Int),.slice a m c] 24)).alloc (.cells #[.int .i64 0,.int .i64 0,.slice none 0 0] 24)).heap[w.heap.size+1]?=some (.cells #[.int .i64 0,.int .i64 0,.slice none 0 0] 24 (0,0)):=by have h:=World.alloc_heap_new (w.alloc (.cells #[.int .i64 (N:Int),.int .i64 (N:Int),.slice a m c] 24)) (.cells #[.int .i64 0,.int .i64 0,.slice none 0 0] 24);simp only[World.size_alloc] at h;exact h
  generalize ((w.alloc (.cells #[.int .i64 (N:Int),.int .i64 (N:Int),.slice a m c] 24)).alloc (.cells #[.int .i64 0,.int .i64 0,.slice none 0 0] 24))=W0 at fsz fB fq0 fq1 ⊢
  obtain ⟨x0,x1,x2,xl⟩:=c3_of fq0
  have HQ0:=Lib.hid fq0
  have HQ1:=Lib.hid fq1
  have hl1:=q_lt fq1
  clear fsz fq1 fq0
  go_wp2_with (first|(go_at_call 18;refine (HK.out _ fB).mono ?_;rintro _ w1 ⟨rfl,hb1⟩;clear x0 x1 x2 xl;obtain ⟨x0,x1,x2,xl⟩:=c3_of (keepq hb1 HQ0.out))|(go_at_call 37;refine (HM.out _ (keep_trans fB hb1)).mono ?_;rintro _ w2 ⟨a2,c2,rfl,hown2,hb2⟩;have hs1:=hb1.size;have g1:=keepq hb2 (keepq hb1 HQ1.out);obtain ⟨y0,y1,y2,yl⟩:=c3_of g1;obtain ⟨yf0,yf1,yf2⟩:=f3_of g1))
  have hne:(Value.slice a2 (ds).length c2).ownBlock≠some (w.heap.size+1):=fun e=>absurd (hown2.lt _ e).1 (by omega)
  have g3:=st3_q (x0 := .int .i64 (N:Int)) (x1 := .int .i64 (N:Int)) (x2 := .slice a2 (ds).length c2) g1
  have hown3:=st3_own (x0 := .int .i64 (N:Int)) (x1 := .int .i64 (N:Int)) (x2 := .slice a2 (ds).length c2) hown2 hne
  have hb3:=st3_below (x0 := .int .i64 (N:Int)) (x1 := .int .i64 (N:Int)) (x2 := .slice a2 (ds).length c2) (b:=w.heap.size+1) (keep_trans (keep_trans fB hb1) hb2) (by omega)
  obtain ⟨z0,z1,z2,zl⟩:=c3_of g3
  refine bodyPost_ret (v := .tuple #[.agg #[.int .i64 (N:Int),.int .i64 (N:Int),.slice a2 (ds).length c2],.int .i64 0]) ?_ rfl ⟨_,_,rfl,owns_base hown3 (keep_trans fB hb1).size,hb3⟩
  simp[results,Try.f11,go_sem,z0,z1,z2]
 ·have hcl:redL r C cs=[]:=if_neg h0
  rw[if_neg h0,hcl]
  have h0':(sqE 0 r C cs != 0)=true:=by simpa using h0
  generalize sqE 0 r C cs=er at HK h0' ⊢
  clear h0 hcl h
  go_enter Try.func11,Try.ntmps11
  go_wp2_with fail
  have fsz:((w.alloc (.cells #[.int .i64 r,.int .i64 C,.slice a m c] 24)).alloc (.cells #[.int .i64 0,.int .i64 0,.slice none 0 0] 24)).heap.size=w.heap.size+2:=by simp only[World.size_alloc] <;> omega
  have fB:Below w.heap.size w ((w.alloc (.cells #[.int .i64 r,.int .i64 C,.slice a m c] 24)).alloc (.cells #[.int .i64 0,.int .i64 0,.slice none 0 0] 24)):=((Below.refl _ _).alloc (Nat.le_refl _) _).alloc (by simp only[World.size_alloc];omega) _
  have fq0:((w.alloc (.cells #[.int .i64 r,.int .i64 C,.slice a m c] 24)).alloc (.cells #[.int .i64 0,.int .i64 0,.slice none 0 0] 24)).heap[w.heap.size]?=some (.cells #[.int .i64 r,.int .i64 C,.slice a m c] 24 (0,0)):=by have h:=World.alloc_heap_new w (.cells #[.int .i64 r,.int .i64 C,.slice a m c] 24);exact (Below.heap_alloc _ _ _ (by simp only[World.size_alloc];omega)).trans (h)
  have fq1:((w.alloc (.cells #[.int .i64 r,.int .i64 C,.slice a m c] 24)).alloc (.cells #[.int .i64 0,.int .i64 0,.slice none 0 0] 24)).heap[w.heap.size+1]?=some (.cells #[.int .i64 0,.int .i64 0,.slice none 0 0] 24 (0,0)):=by have h:=World.alloc_heap_new (w.alloc (.cells #[.int .i64 r,.int .i64 C,.slice a m c] 24)) (.cells #[.int .i64 0,.int .i64 0,.slice none 0 0] 24);simp only[World.size_alloc] at h;exact h
  generalize ((w.alloc (.cells #[.int .i64 r,.int .i64 C,.slice a m c] 24)).alloc (.cells #[.int .i64 0,.int .i64 0,.slice none 0 0] 24))=W0 at fsz fB fq0 fq1 ⊢
  obtain ⟨x0,x1,x2,xl⟩:=c3_of fq0
  have HQ1:=Lib.hid fq1
  have hl1:=q_lt fq1
  clear fsz fq0 fq1
  go_wp2_with (first|(go_at_call 18;refine (HK.out _ fB).mono ?_;rintro _ w1 ⟨rfl,hb1⟩;have g1:=keepq hb1 HQ1.out;obtain ⟨y0,y1,y2,yl⟩:=c3_of g1;obtain ⟨yf0,yf1,yf2⟩:=f3_of g1))
  have g3:=st3_q (x0 := .int .i64 0) (x1 := .int .i64 0) (x2 := .slice none 0 0) g1
  have hb3:=st3_below (x0 := .int .i64 0) (x1 := .int .i64 0) (x2 := .slice none 0 0) (b:=w.heap.size+1) (keep_trans fB hb1) (by omega)
  obtain ⟨z0,z1,z2,zl⟩:=c3_of g3
  refine bodyPost_ret (v := .tuple #[.agg #[.int .i64 0,.int .i64 0,.slice none 0 0],.int .i64 (er)]) ?_ rfl ⟨none,0,rfl,World.ownsRow_nil _ _ _ _,hb3⟩
  simp[results,Try.f11,go_sem,z0,z1,z2]
end
section
open Go Go.RowKit
attribute [local go_sem] over_cell
attribute [local go_sem] Oper.semAt_some
theorem infoBool1:(Try.prog.info? 4).map (fun i=>(i.zero,i.size,i.bytes))=some (some (.bool false),1,1):=by kernel_rfl
def seenL (n:Nat) (p:List Int) (k:Nat):List Value:=(List.range n).map fun (i:Nat)=>Value.bool (hasB (p.take k) (i:Int))
theorem seen_zero (n:Nat) (p:List Int):(madeCells (Value.bool false).cells (n*1)).toList=seenL n p 0:=by
 have e:(madeCells (Value.bool false).cells (n*1)).toList=List.replicate n (.bool false):=by
  apply List.ext_getElem?
  intro i
  by_cases h:i<n
  ·simp[madeCells,h,Value.cells,Nat.mod_one]
  ·simp[madeCells,h]
 rw[e]
 unfold seenL
 apply List.ext_getElem
 ·simp
 ·intro i h1 h2
  simp[hasB]
theorem seen_set {n:Nat} {p:List Int} {k q:Nat} (hk:k<p.length) (hq:p[k]?.getD 0=(q:Int)):(seenL n p k).set q (.bool true)=seenL n p (k+1):=by
 unfold seenL
 apply List.ext_getElem
 ·simp
 ·intro i h1 h2
  rw[List.getElem_set]
  simp only[List.getElem_map,List.getElem_range]
  have e:hasB (p.take (k+1)) (i:Int)=(hasB (p.take k) (i:Int)||(q==i)):=by
   unfold hasB
   rw[take_snoc p 0 k hk,hq,Bool.eq_iff_iff,Bool.or_eq_true,List.contains_iff_mem,List.contains_iff_mem,List.mem_append,List.mem_singleton,beq_iff_eq]
   constructor
   ·rintro (h|h)
    ·exact .inl h
    ·exact .inr (by omega)
   ·rintro (h|h)
    ·exact .inl h
    ·exact .inr (by omega)
  rw[e]
  by_cases hi:q=i
  ·subst hi;simp
  ·simp[hi]
theorem seen_at {n:Nat} {p:List Int} {k q:Nat} {x:Value} (h:(seenL n p k)[q]?=some x):x = .bool (hasB (p.take k) (q:Int)):=by
 unfold seenL at h
 rw[List.getElem?_map] at h
 cases h2:(List.range n)[q]? with
 | none=>rw[h2] at h;cases h
 | some j =>
  rw[h2] at h
  have:j=q:=by
   have h3:=List.getElem?_eq_some_iff.1 h2
   obtain ⟨h4,h5⟩:=h3
   simpa using h5.symm
  subst this
  simpa using h.symm
end
section
open Go Go.RowKit
attribute [local go_sem] over_cell
attribute [local go_sem] Oper.semAt_some
theorem uwhen_c (h:Bool) (e:Int) (w:World):Calls Try.prog 31 #[.bool h,.int .i64 e] w fun r w'=>r = .returned (.int .i64 (whenV h e))∧w=w':=by
 cases h
 ·go_enter Try.func31,Try.ntmps31
  go_wp2
  go_ret
  exact ⟨rfl,rfl⟩
 ·go_enter Try.func31,Try.ntmps31
  go_wp2
  go_ret
  exact ⟨rfl,rfl⟩
theorem ufirst_c (a:Option Addr) (n c:Nat) (xs:List Int) (w:World) (h:IC w a n xs) :
  Calls Try.prog 29 #[.slice a n c] w fun e w'=>e = .returned (.int .i64 (firstL xs))∧w=w':=by
 have hm:=h.small
 go_enter Try.func29,Try.ntmps29
 go_wp2
 go_loop [4,7] (fun _ i=>∃k:Nat,k≤n∧i = .int .i64 k∧Hid (∀j,j<k→xs[j]?.getD 0=0)) (fun _ i=>n - (intOf i).toNat)
 case atStart=>exact ⟨0,by omega,rfl,fun j hj=>absurd hj (by omega)⟩
 case round =>
  obtain ⟨k,hk,rfl,hn⟩:=hrel
  by_cases hlt:k<n
  ·obtain ⟨b,off,rfl,hb,hc⟩:=h.2 k hlt
   go_wp2
   ·have he:(xs[k]?.getD 0 != 0)=true:=by assumption
    go_ret
    exact ⟨ret_int (firstL_hit hn.out (by rw[h.len];exact hlt) (by simpa using he)).symm,rfl⟩
   ·have he:(xs[k]?.getD 0 != 0)=false:=by assumption
    go_round
    case rel=>exact ⟨k+1,by omega,by go_num,upI_snoc (f:=fun j=>xs[j]?.getD 0) hn.out (by simpa using he)⟩
    case measure=>simp[intOf];omega
  ·have e:k=n:=by omega
   subst e
   go_wp2
   go_ret
   exact ⟨ret_int (firstL_none (by rw[h.len];exact hn.out)).symm,rfl⟩
theorem uorder_c (n:Nat) (h1:1≤n) (h2:n≤16) (w:World):Calls Try.prog 57 #[.int .i64 (n:Int)] w fun e w'=>e = .returned (.int .i64 0)∧w=w':=by
 have hd1:decide ((n:Int)<1)=false:=decide_eq_false (by omega)
 have hd2:decide ((16:Int)<(n:Int))=false:=decide_eq_false (by omega)
 go_enter Try.func57,Try.ntmps57
 go_wp2_with (first|(go_at_call 31;refine (uwhen_c _ _ _).mono ?_;rintro _ w3 ⟨rfl,rfl⟩))
 go_ret
 exact ⟨rfl,rfl⟩
def shpE (r C:Int) (cs:List Int):Int:=whenV (!sqB r C cs) 2
theorem shpE_ok {n:Nat} {cs:List Int} (h1:1≤n) (h2:n≤16) (hl:cs.length=n*n):shpE (n:Int) (n:Int) cs=0:=by
 have:sqB (n:Int) (n:Int) cs=true:=by
  unfold sqB
  rw[hl,← Int.natCast_mul]
  simp only[Bool.and_eq_true,decide_eq_true_eq]
  exact ⟨⟨⟨trivial,by omega⟩,by omega⟩,trivial⟩
 unfold shpE
 rw[this];rfl
theorem usq_c (r C:Int) (a:Option Addr) (n c:Nat) (cs:List Int) (w:World) (h:IC w a n cs) :
  Calls Try.prog 50 #[.agg #[.int .i64 r,.int .i64 C,.slice a n c]] w fun e w'=>e = .returned (.int .i64 (shpE r C cs))∧Below w.heap.size w w':=by
 have hm:=h.small
 have hlen:=h.len
 clear h
 by_cases hrc:r=C
 ·subst hrc
  have hq:(r != r)=false:=by simp
  by_cases h1:1≤r
  ·have hd1:decide (r<1)=false:=decide_eq_false (by omega)
   by_cases h2:r≤16
   ·have hd2:decide (16<r)=false:=decide_eq_false (by omega)
    obtain ⟨N,rfl⟩:=Int.eq_ofNat_of_zero_le (show 0≤r by omega)
    have HE:Hid (shpE (N:Int) (N:Int) cs=whenV ((n:Int) != wrap64 ((N:Int)*(N:Int))) 2):=by
     unfold Hid shpE
     congr 1
     unfold sqB
     rw[sq_wrap (by omega),hlen,← Int.natCast_mul,show decide ((N:Int)≤16)=true from decide_eq_true h2,show decide ((1:Int)≤(N:Int))=true from decide_eq_true h1,decide_eq_true rfl,Bool.true_and,Bool.true_and,Bool.true_and,Bool.eq_iff_iff,Bool.not_eq_true',decide_eq_false_iff_not,bne_iff_ne]
    clear hlen
    go_enter Try.func50,Try.ntmps50
    go_wp2_with fail
    have fB:Below w.heap.size w (w.alloc (.cells #[.int .i64 (N:Int),.int .i64 (N:Int),.slice a n c] 24)):=(Below.refl _ _).alloc (Nat.le_refl _) _
    have FQ:Hid ((w.alloc (.cells #[.int .i64 (N:Int),.int .i64 (N:Int),.slice a n c] 24)).heap[w.heap.size]?=some (.cells #[.int .i64 (N:Int),.int .i64 (N:Int),.slice a n c] 24 (0,0))):=World.alloc_heap_new _ _
    generalize (w.alloc (.cells #[.int .i64 (N:Int),.int .i64 (N:Int),.slice a n c] 24))=W0 at fB FQ ⊢
    obtain ⟨x0,x1,x2,xl⟩:=c3_of FQ.out
    go_wp2_with (first|(go_at_call 31;refine (uwhen_c _ _ _).mono ?_;rintro _ w3 ⟨rfl,rfl⟩))
    go_ret
    exact ⟨ret_int HE.out.symm,fB⟩
   ·have hd2:decide (16<r)=true:=decide_eq_true (by omega)
    have HE:Hid (shpE r r cs=whenV true 2):=by
     unfold Hid shpE sqB
     rw[decide_eq_false h2];simp
    clear hlen
    go_enter Try.func50,Try.ntmps50
    go_wp2_with fail
    have fB:Below w.heap.size w (w.alloc (.cells #[.int .i64 r,.int .i64 r,.slice a n c] 24)):=(Below.refl _ _).alloc (Nat.le_refl _) _
    have FQ:Hid ((w.alloc (.cells #[.int .i64 r,.int .i64 r,.slice a n c] 24)).heap[w.heap.size]?=some (.cells #[.int .i64 r,.int .i64 r,.slice a n c] 24 (0,0))):=World.alloc_heap_new _ _
    generalize (w.alloc (.cells #[.int .i64 r,.int .i64 r,.slice a n c] 24))=W0 at fB FQ ⊢
    obtain ⟨x0,x1,x2,xl⟩:=c3_of FQ.out
    go_wp2_with (first|(go_at_call 31;refine (uwhen_c _ _ _).mono ?_;rintro _ w3 ⟨rfl,rfl⟩))
    go_ret
    exact ⟨ret_int HE.out.symm,fB⟩
  ·have hd1:decide (r<1)=true:=decide_eq_true (by omega)
   have HE:Hid (shpE r r cs=whenV true 2):=by
    unfold Hid shpE sqB
    rw[decide_eq_false h1];simp
   clear hlen
   go_enter Try.func50,Try.ntmps50
   go_wp2_with fail
   have fB:Below w.heap.size w (w.alloc (.cells #[.int .i64 r,.int .i64 r,.slice a n c] 24)):=(Below.refl _ _).alloc (Nat.le_refl _) _
   have FQ:Hid ((w.alloc (.cells #[.int .i64 r,.int .i64 r,.slice a n c] 24)).heap[w.heap.size]?=some (.cells #[.int .i64 r,.int .i64 r,.slice a n c] 24 (0,0))):=World.alloc_heap_new _ _
   generalize (w.alloc (.cells #[.int .i64 r,.int .i64 r,.slice a n c] 24))=W0 at fB FQ ⊢
   obtain ⟨x0,x1,x2,xl⟩:=c3_of FQ.out
   go_wp2_with (first|(go_at_call 31;refine (uwhen_c _ _ _).mono ?_;rintro _ w3 ⟨rfl,rfl⟩))
   go_ret
   exact ⟨ret_int HE.out.symm,fB⟩
 ·have hq:(r != C)=true:=by simpa using hrc
  have HE:Hid (shpE r C cs=whenV true 2):=by
   unfold Hid shpE sqB
   rw[decide_eq_false hrc];simp
  clear hlen
  go_enter Try.func50,Try.ntmps50
  go_wp2_with fail
  have fB:Below w.heap.size w (w.alloc (.cells #[.int .i64 r,.int .i64 C,.slice a n c] 24)):=(Below.refl _ _).alloc (Nat.le_refl _) _
  have FQ:Hid ((w.alloc (.cells #[.int .i64 r,.int .i64 C,.slice a n c] 24)).heap[w.heap.size]?=some (.cells #[.int .i64 r,.int .i64 C,.slice a n c] 24 (0,0))):=World.alloc_heap_new _ _
  generalize (w.alloc (.cells #[.int .i64 r,.int .i64 C,.slice a n c] 24))=W0 at fB FQ ⊢
  obtain ⟨x0,x1,x2,xl⟩:=c3_of FQ.out
  go_wp2_with (first|(go_at_call 31;refine (uwhen_c _ _ _).mono ?_;rintro _ w3 ⟨rfl,rfl⟩))
  go_ret
  exact ⟨ret_int HE.out.symm,fB⟩
theorem enterUd:∀args w,Sem.run Try.prog (callFunc 52 args) w = .ok (.enter 52 args) w:=by
 intro args w;kernel_rfl
theorem udig1_c (x r:Int) (u1 u2:Value) (b:Nat) (w:World) (hq:w.heap[b]?=some (.cells #[.int .i64 r,u1,u2] 24 (0,0))) :
  Calls Try.prog 52 #[.int .i64 x,.pointer (some ⟨b,0,none⟩)] w fun e w'=>e = .returned (.bool (decide (x<0)||decide (r≤x)))∧Below w.heap.size w w':=by
 obtain ⟨x0,x1,x2,xl⟩:=c3_of hq
 clear hq
 by_cases h:x<0
 ·have hd:decide (x<0)=true:=decide_eq_true h
  go_enter Try.func52,Try.ntmps52
  go_wp2
  go_ret
  exact ⟨ret_bool (by first|rfl|(rw[hd];rfl)|simp[hd]),Below.refl _ _⟩
 ·have hd:decide (x<0)=false:=decide_eq_false h
  go_enter Try.func52,Try.ntmps52
  go_wp2
  go_ret
  exact ⟨ret_bool (by first|rfl|(rw[hd];rfl)|simp[hd]),Below.refl _ _⟩
theorem udigits_c (n:Nat) (a:Option Addr) (m c:Nat) (cs:List Int) (w:World) (h:IC w a m cs) (S:Sq n cs) :
  Calls Try.prog 30 #[.agg #[.int .i64 (n:Int),.int .i64 (n:Int),.slice a m c]] w fun e w'=>e = .returned (.int .i64 0)∧Below w.heap.size w w':=by
 have HE:=shpE_ok S.n1 S.n2 S.len
 have HQ:=Lib.hid (fun W (hb:Below w.heap.size w W)=>usq_c (n:Int) (n:Int) a m c cs W (h.mono hb))
 rw[HE] at HQ
 have HC:Hid (∀W,Below w.heap.size w W→∀b u1 u2,W.heap[b]?=some (.cells #[.int .i64 (n:Int),u1,u2] 24 (0,0))→Calls Try.prog 51 #[.slice a m c,.func (.func 52) #[] #[.pointer (some ⟨b,0,none⟩)]] W fun e w'=>e = .returned (.bool false)∧Below W.heap.size W w'):=by
  intro W hb b u1 u2 hq
  refine (containsFuncI_c a m c cs 52 #[.pointer (some ⟨b,0,none⟩)] (fun k=>decide (cs[k]?.getD 0<0)||decide ((n:Int)≤cs[k]?.getD 0)) W (h.mono hb) enterUd (fun k _ w' hb'=>udig1_c _ _ u1 u2 b w' (keepq hb' hq))).mono ?_
  rintro e w' ⟨rfl,hb'⟩
  refine ⟨ret_bool ?_,hb'⟩
  unfold anyP
  rw[Bool.eq_false_iff]
  intro e
  obtain ⟨k,_,hk⟩:=List.any_eq_true.1 e
  have:=S.num k
  rw[Bool.or_eq_true,decide_eq_true_eq,decide_eq_true_eq] at hk
  omega
 clear h HE
 go_enter Try.func30,Try.ntmps30
 go_wp2_with fail
 have fB:Below w.heap.size w (w.alloc (.cells #[.int .i64 (n:Int),.int .i64 (n:Int),.slice a m c] 24)):=(Below.refl _ _).alloc (Nat.le_refl _) _
 have FQ:Hid ((w.alloc (.cells #[.int .i64 (n:Int),.int .i64 (n:Int),.slice a m c] 24)).heap[w.heap.size]?=some (.cells #[.int .i64 (n:Int),.int .i64 (n:Int),.slice a m c] 24 (0,0))):=World.alloc_heap_new _ _
 generalize (w.alloc (.cells #[.int .i64 (n:Int),.int .i64 (n:Int),.slice a m c] 24))=W0 at fB FQ ⊢
 obtain ⟨x0,x1,x2,xl⟩:=c3_of FQ.out
 go_wp2_with (first|(go_at_call 50;refine (HQ.out _ fB).mono ?_;rintro _ w1 ⟨rfl,hb1⟩;clear x0 x1 x2 xl;have q1:=keepq hb1 FQ.out;obtain ⟨x0,x1,x2,xl⟩:=c3_of q1)|(go_at_call 51;refine (HC.out _ (keep_trans fB hb1) _ _ _ q1).mono ?_;rintro _ w2 ⟨rfl,hb2⟩)|(go_at_call 31;refine (uwhen_c _ _ _).mono ?_;rintro _ w3 ⟨rfl,rfl⟩))
 go_ret
 exact ⟨rfl,keep_trans (keep_trans fB hb1) hb2⟩
end
end Go.Proofs.Ytceombamoikhdaa
