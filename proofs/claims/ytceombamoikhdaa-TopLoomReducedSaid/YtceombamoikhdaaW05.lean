/- Texts J25 to J26 of this proof, in one file. -/
import Derived.Test.YtceombamoikhdaaW01
import Derived.Test.YtceombamoikhdaaW02
import Derived.Test.YtceombamoikhdaaW04
namespace Go.Proofs.Ytceombamoikhdaa
set_option maxRecDepth 100000
set_option maxHeartbeats 16000000
section
open Go Go.RowKit
attribute [local go_sem] over_cell
attribute [local go_sem] Oper.semAt_some
theorem any_upto {p:Int→Bool} {cs:List Int} (h:∀j,j<cs.length→p (cs[j]?.getD 0)=false):cs.any p=false:=by
 rw[List.any_eq_false]
 intro x hx
 obtain ⟨k,hk,e⟩:=List.getElem_of_mem hx
 have:=h k hk
 rw[List.getElem?_eq_getElem hk,Option.getD_some,e] at this
 rw[this];decide
theorem any_hit {p:Int→Bool} {cs:List Int} {j:Nat} (hj:j<cs.length) (h:p (cs[j]?.getD 0)=true):cs.any p=true:=by
 rw[List.getElem?_eq_getElem hj,Option.getD_some] at h
 exact List.any_eq_true.2 ⟨_,List.getElem_mem hj,h⟩
theorem rlsym_c (r:Int) (C:Nat) (a:Option Addr) (n c:Nat) (cs:List Int) (low:Int) (w:World) (h:IC w a n cs) (hC:1≤C) (hn:n≤65536) :
  Calls Try.prog 14 #[.agg #[.int .i64 r,.int .i64 (C:Int),.slice a n c],.int .i64 low] w fun e w'=>e = .returned (.int .i64 (symE low C cs))∧Below w.heap.size w w':=by
 have hm:=h.small
 go_enter Try.func14,Try.ntmps14
 go_wp2_with fail
 have fB:Below w.heap.size w (w.alloc (.cells #[.int .i64 r,.int .i64 (C:Int),.slice a n c] 24)):=(Below.refl _ _).alloc (Nat.le_refl _) _
 have FQ:Hid ((w.alloc (.cells #[.int .i64 r,.int .i64 (C:Int),.slice a n c] 24)).heap[w.heap.size]?=some (.cells #[.int .i64 r,.int .i64 (C:Int),.slice a n c] 24 (0,0))):=World.alloc_heap_new _ _
 generalize (w.alloc (.cells #[.int .i64 r,.int .i64 (C:Int),.slice a n c] 24))=W0 at fB FQ ⊢
 obtain ⟨x0,x1,x2,xl⟩:=c3_of FQ.out
 have h0:=h.mono fB
 have HL:=Lib.hid h.len
 have HT:=Lib.hid (fun W (hb:Below W0.heap.size W0 W)=>rtwice_c r C a n c cs W (h0.mono hb) hC hn)
 clear h
 go_loopw [5] (fun s5 wr=>∃k:Nat,k≤n∧s5 = .int .i64 k∧Hid (∀j,j<k→(decide (cs[j]?.getD 0<low)||decide ((C:Int)≤cs[j]?.getD 0))=false)∧Below W0.heap.size W0 wr) (fun s5 _=>n - (intOf s5).toNat)
 case atStart=>exact ⟨0,by omega,rfl,fun j hj=>absurd hj (by omega),Below.refl _ _⟩
 case round =>
  obtain ⟨k,hk,rfl,hn1,hbr⟩:=hrel
  clear x0 x1 x2 xl
  obtain ⟨x0,x1,x2,xl⟩:=c3_of (keepq hbr FQ.out)
  by_cases hlt:k<n
  ·obtain ⟨b,off,rfl,hb,hc⟩:=(h0.mono hbr).2 k hlt
   have hki:(k:Int)<(n:Int):=by omega
   have HN:=Lib.hid (fun e=>upB_snoc (f:=fun j=>decide (cs[j]?.getD 0<low)||decide ((C:Int)≤cs[j]?.getD 0)) hn1.out e)
   have HE:=Lib.hid (fun e=>any_hit (p:=fun x=>decide (x<low)||decide ((C:Int)≤x)) (cs:=cs) (j:=k) (by rw[HL.out];exact hlt) e)
   obtain ⟨x,hx⟩:∃x,x=cs[k]?.getD 0:=⟨_,rfl⟩
   rw[← hx] at hc HN HE
   clear hx
   obtain ⟨t1,ht1⟩:∃t,t=decide (x<low):=⟨_,rfl⟩
   obtain ⟨t2,ht2⟩:∃t,t=decide ((C:Int)≤x):=⟨_,rfl⟩
   rw[← ht1,← ht2] at HN HE
   replace ht1:=ht1.symm
   replace ht2:decide (x≥(C:Int))=t2:=ht2.symm
   go_wp2_with fail
   cases t1 with
   | true =>
    refine wp_region_S (fun w'=>∃u,w'=over (wr) u) [] [(0,0),(0,1),(0,2),(0,3),(0,4),(0,5),(0,6),(0,7),(0,8),(0,9),(0,10),(0,11),(0,12),(0,13),(0,14),(0,15),(0,16)] (by kernel_rfl) (by kernel_rfl) (by exact ⟨_,below_over (by repeat (first|assumption|exact Below.refl _ _|refine keep_drew ?_|refine keep_alloc ?_ _|refine keep_trans ?_ (by assumption)))⟩) ?_
    dsimp only[pickOps,nthOp]
    repeat (first|(refine wpS_skip rfl (fun K hK=>?_);go_big_quiet_op;refine hK _ ?_;clear hK K)|(refine wpS_quiet rfl rfl (fun K hK=>?_);go_big_quiet_op;refine hK _ ?_;clear hK K))
    refine wpS_end ?_
    go_wp2_with fail
    go_ret
    exact ⟨ret_int (by unfold symE;rw[if_pos (HE.out rfl)]),(fB.trans (hbr.mono fB.size)).drew⟩
   | false =>
    cases t2 with
    | true =>
     refine wp_region_S (fun w'=>∃u,w'=over (wr) u) [] [(0,0),(0,1),(0,2),(0,3),(0,4),(0,5),(0,6),(0,7),(0,8),(0,9),(0,10),(0,11),(0,12),(0,13),(0,14),(0,15),(0,16)] (by kernel_rfl) (by kernel_rfl) (by exact ⟨_,below_over (by repeat (first|assumption|exact Below.refl _ _|refine keep_drew ?_|refine keep_alloc ?_ _|refine keep_trans ?_ (by assumption)))⟩) ?_
     dsimp only[pickOps,nthOp]
     repeat (first|(refine wpS_skip rfl (fun K hK=>?_);go_big_quiet_op;refine hK _ ?_;clear hK K)|(refine wpS_quiet rfl rfl (fun K hK=>?_);go_big_quiet_op;refine hK _ ?_;clear hK K))
     refine wpS_end ?_
     go_wp2_with fail
     go_ret
     exact ⟨ret_int (by unfold symE;rw[if_pos (HE.out rfl)]),(fB.trans (hbr.mono fB.size)).drew⟩
    | false =>
     refine wp_region_S (fun w'=>∃u,w'=over (wr) u) [] [(0,0),(0,1),(0,2),(0,3),(0,4),(0,5),(0,6),(0,7),(0,8),(0,9),(0,10),(0,11),(0,12),(0,13),(0,14),(0,15),(0,16)] (by kernel_rfl) (by kernel_rfl) (by exact ⟨_,below_over (by repeat (first|assumption|exact Below.refl _ _|refine keep_drew ?_|refine keep_alloc ?_ _|refine keep_trans ?_ (by assumption)))⟩) ?_
     dsimp only[pickOps,nthOp]
     repeat (first|(refine wpS_skip rfl (fun K hK=>?_);go_big_quiet_op;refine hK _ ?_;clear hK K)|(refine wpS_quiet rfl rfl (fun K hK=>?_);go_big_quiet_op;refine hK _ ?_;clear hK K))
     refine wpS_end ?_
     go_wp2_with fail
     go_roundw
     case rel=>exact ⟨k+1,by omega,by go_num,HN.out rfl,hbr.drew⟩
     case measure=>simp[intOf];omega
  ·have e:k=n:=by omega
   subst e
   have HA:Hid ((cs.any fun x=>decide (x<low)||decide ((C:Int)≤x))=false):=any_upto (by rw[HL.out];exact hn1.out)
   have HE:Hid (symE low C cs=if twiceB C cs=true then 17 else 0):=by
    unfold Hid symE
    rw[if_neg (by rw[HA.out];decide)]
   generalize twiceB C cs=t at HT HE
   cases t with
   | true =>
    go_wp2_with (first|(go_at_call 38;refine (HT.out _ hbr).mono ?_;rintro _ w1 ⟨rfl,hb1⟩))
    go_ret
    exact ⟨ret_int HE.out.symm,keep_trans (fB.trans (hbr.mono fB.size)) hb1⟩
   | false =>
    go_wp2_with (first|(go_at_call 38;refine (HT.out _ hbr).mono ?_;rintro _ w1 ⟨rfl,hb1⟩))
    go_ret
    exact ⟨ret_int HE.out.symm,keep_trans (fB.trans (hbr.mono fB.size)) hb1⟩
theorem sq_wrap {N:Nat} (h:N≤16):wrap64 ((N:Int)*(N:Int))=((N*N:Nat):Int):=by
 rw[← Int.natCast_mul]
 have h1:N*N≤16*16:=Nat.mul_le_mul h h
 generalize N*N=q at h1 ⊢
 unfold wrap64
 omega
theorem rissq_c (r C:Int) (a:Option Addr) (n c:Nat) (cs:List Int) (w:World) (h:IC w a n cs) :
  Calls Try.prog 13 #[.agg #[.int .i64 r,.int .i64 C,.slice a n c]] w fun e w'=>e = .returned (.bool (sqB r C cs))∧Below w.heap.size w w':=by
 have hm:=h.small
 have hlen:=h.len
 clear h
 by_cases hrc:r=C
 ·subst hrc
  have hq:(r==r)=true:=by simp
  by_cases h1:1≤r
  ·have hd1:decide (r≥1)=true:=decide_eq_true h1
   by_cases h2:r≤16
   ·have hd2:decide (r≤16)=true:=decide_eq_true h2
    obtain ⟨N,rfl⟩:=Int.eq_ofNat_of_zero_le (show 0≤r by omega)
    have HE:Hid (sqB (N:Int) (N:Int) cs=((n:Int)==wrap64 ((N:Int)*(N:Int)))):=by
     unfold Hid sqB
     rw[sq_wrap (by omega),hlen,← Int.natCast_mul,hd2,show decide ((1:Int)≤(N:Int))=true from decide_eq_true h1,decide_eq_true rfl,Bool.true_and,Bool.true_and,Bool.true_and,Bool.eq_iff_iff,decide_eq_true_eq,beq_iff_eq]
    clear hlen
    go_enter Try.func13,Try.ntmps13
    go_wp2_with fail
    have fB:Below w.heap.size w (w.alloc (.cells #[.int .i64 (N:Int),.int .i64 (N:Int),.slice a n c] 24)):=(Below.refl _ _).alloc (Nat.le_refl _) _
    have FQ:Hid ((w.alloc (.cells #[.int .i64 (N:Int),.int .i64 (N:Int),.slice a n c] 24)).heap[w.heap.size]?=some (.cells #[.int .i64 (N:Int),.int .i64 (N:Int),.slice a n c] 24 (0,0))):=World.alloc_heap_new _ _
    generalize (w.alloc (.cells #[.int .i64 (N:Int),.int .i64 (N:Int),.slice a n c] 24))=W0 at fB FQ ⊢
    obtain ⟨x0,x1,x2,xl⟩:=c3_of FQ.out
    go_wp2_with fail
    go_ret
    exact ⟨ret_bool HE.out.symm,fB⟩
   ·have hd2:decide (r≤16)=false:=decide_eq_false h2
    have HE:Hid (sqB r r cs=false):=by
     unfold Hid sqB
     rw[hd2];simp
    clear hlen
    go_enter Try.func13,Try.ntmps13
    go_wp2_with fail
    have fB:Below w.heap.size w (w.alloc (.cells #[.int .i64 r,.int .i64 r,.slice a n c] 24)):=(Below.refl _ _).alloc (Nat.le_refl _) _
    have FQ:Hid ((w.alloc (.cells #[.int .i64 r,.int .i64 r,.slice a n c] 24)).heap[w.heap.size]?=some (.cells #[.int .i64 r,.int .i64 r,.slice a n c] 24 (0,0))):=World.alloc_heap_new _ _
    generalize (w.alloc (.cells #[.int .i64 r,.int .i64 r,.slice a n c] 24))=W0 at fB FQ ⊢
    obtain ⟨x0,x1,x2,xl⟩:=c3_of FQ.out
    go_wp2_with fail
    go_ret
    exact ⟨ret_bool HE.out.symm,fB⟩
  ·have hd1:decide (r≥1)=false:=decide_eq_false h1
   have HE:Hid (sqB r r cs=false):=by
    unfold Hid sqB
    rw[show decide (1≤r)=false from hd1];simp
   clear hlen
   go_enter Try.func13,Try.ntmps13
   go_wp2_with fail
   have fB:Below w.heap.size w (w.alloc (.cells #[.int .i64 r,.int .i64 r,.slice a n c] 24)):=(Below.refl _ _).alloc (Nat.le_refl _) _
   have FQ:Hid ((w.alloc (.cells #[.int .i64 r,.int .i64 r,.slice a n c] 24)).heap[w.heap.size]?=some (.cells #[.int .i64 r,.int .i64 r,.slice a n c] 24 (0,0))):=World.alloc_heap_new _ _
   generalize (w.alloc (.cells #[.int .i64 r,.int .i64 r,.slice a n c] 24))=W0 at fB FQ ⊢
   obtain ⟨x0,x1,x2,xl⟩:=c3_of FQ.out
   go_wp2_with fail
   go_ret
   exact ⟨ret_bool HE.out.symm,fB⟩
 ·have hq:(r==C)=false:=by simpa using hrc
  have HE:Hid (sqB r C cs=false):=by
   unfold Hid sqB
   rw[decide_eq_false hrc];simp
  clear hlen
  go_enter Try.func13,Try.ntmps13
  go_wp2_with fail
  have fB:Below w.heap.size w (w.alloc (.cells #[.int .i64 r,.int .i64 C,.slice a n c] 24)):=(Below.refl _ _).alloc (Nat.le_refl _) _
  have FQ:Hid ((w.alloc (.cells #[.int .i64 r,.int .i64 C,.slice a n c] 24)).heap[w.heap.size]?=some (.cells #[.int .i64 r,.int .i64 C,.slice a n c] 24 (0,0))):=World.alloc_heap_new _ _
  generalize (w.alloc (.cells #[.int .i64 r,.int .i64 C,.slice a n c] 24))=W0 at fB FQ ⊢
  obtain ⟨x0,x1,x2,xl⟩:=c3_of FQ.out
  go_wp2_with fail
  go_ret
  exact ⟨ret_bool HE.out.symm,fB⟩
theorem sqB_dims {r C:Int} {cs:List Int} (h:sqB r C cs=true):∃N:Nat,r=(N:Int)∧C=(N:Int)∧1≤N∧N≤16∧cs.length=N*N:=by
 unfold sqB at h
 simp only[Bool.and_eq_true,decide_eq_true_eq] at h
 obtain ⟨⟨⟨h1,h2⟩,h3⟩,h4⟩:=h
 refine ⟨r.toNat,by omega,by omega,by omega,by omega,?_⟩
 subst h1
 obtain ⟨N,rfl⟩:=Int.eq_ofNat_of_zero_le (show 0≤r by omega)
 rw[← Int.natCast_mul] at h4
 rw[show ((N:Int)).toNat=N from rfl]
 exact Int.ofNat.inj h4
theorem rcheck_c (r C:Int) (a:Option Addr) (n c:Nat) (cs:List Int) (w:World) (h:IC w a n cs) :
  Calls Try.prog 4 #[.agg #[.int .i64 r,.int .i64 C,.slice a n c]] w fun e w'=>e = .returned (.int .i64 (sqE 0 r C cs))∧Below w.heap.size w w':=by
 have HI:=Lib.hid (fun W (hb:Below w.heap.size w W)=>rissq_c r C a n c cs W (h.mono hb))
 cases hq:sqB r C cs with
 | false =>
  have HE:Hid (sqE 0 r C cs=2):=by unfold Hid sqE;rw[hq];rfl
  rw[hq] at HI
  clear hq h
  go_enter Try.func4,Try.ntmps4
  go_wp2_with fail
  have fB:Below w.heap.size w (w.alloc (.cells #[.int .i64 r,.int .i64 C,.slice a n c] 24)):=(Below.refl _ _).alloc (Nat.le_refl _) _
  have FQ:Hid ((w.alloc (.cells #[.int .i64 r,.int .i64 C,.slice a n c] 24)).heap[w.heap.size]?=some (.cells #[.int .i64 r,.int .i64 C,.slice a n c] 24 (0,0))):=World.alloc_heap_new _ _
  generalize (w.alloc (.cells #[.int .i64 r,.int .i64 C,.slice a n c] 24))=W0 at fB FQ ⊢
  obtain ⟨x0,x1,x2,xl⟩:=c3_of FQ.out
  go_wp2_with (first|(go_at_call 13;refine (HI.out _ fB).mono ?_;rintro _ w1 ⟨rfl,hb1⟩))
  go_ret
  exact ⟨ret_int HE.out.symm,keep_trans fB hb1⟩
 | true =>
  obtain ⟨N,rfl,rfl,hN1,hN2,hl⟩:=sqB_dims hq
  have HE:Hid (sqE 0 (N:Int) (N:Int) cs=symE 0 N cs):=by unfold Hid sqE;rw[hq];rfl
  have hn2:n≤65536:=by
   rw[← h.len,hl]
   exact Nat.le_trans (Nat.mul_le_mul hN2 hN2) (by decide)
  have HS:=Lib.hid (fun W (hb:Below w.heap.size w W)=>rlsym_c (N:Int) N a n c cs (0) W (h.mono hb) hN1 hn2)
  rw[hq] at HI
  clear hq h hl
  go_enter Try.func4,Try.ntmps4
  go_wp2_with fail
  have fB:Below w.heap.size w (w.alloc (.cells #[.int .i64 (N:Int),.int .i64 (N:Int),.slice a n c] 24)):=(Below.refl _ _).alloc (Nat.le_refl _) _
  have FQ:Hid ((w.alloc (.cells #[.int .i64 (N:Int),.int .i64 (N:Int),.slice a n c] 24)).heap[w.heap.size]?=some (.cells #[.int .i64 (N:Int),.int .i64 (N:Int),.slice a n c] 24 (0,0))):=World.alloc_heap_new _ _
  generalize (w.alloc (.cells #[.int .i64 (N:Int),.int .i64 (N:Int),.slice a n c] 24))=W0 at fB FQ ⊢
  obtain ⟨x0,x1,x2,xl⟩:=c3_of FQ.out
  go_wp2_with (first|(go_at_call 13;refine (HI.out _ fB).mono ?_;rintro _ w1 ⟨rfl,hb1⟩;clear x0 x1 x2 xl;obtain ⟨x0,x1,x2,xl⟩:=c3_of (keepq hb1 FQ.out))|(go_at_call 14;refine (HS.out _ (keep_trans fB hb1)).mono ?_;rintro _ w2 ⟨rfl,hb2⟩))
  go_ret
  exact ⟨ret_int HE.out.symm,keep_trans (keep_trans fB hb1) hb2⟩
end
section
def symAt (n:Nat) (cs:List Int) (i:Nat) (j:Int):Int:=cs[i*n+j.toNat]?.getD 0
def symsOf (n:Nat) (cs t:List Int):List Int:=(List.range t.length).map fun i=>symAt n cs i (t[i]?.getD 0)
def transB (n:Nat) (cs t:List Int):Bool:=(List.range t.length).all fun i=>(List.range i).all fun k=>!(t[i]?.getD 0==t[k]?.getD 0||symAt n cs i (t[i]?.getD 0)==symAt n cs k (t[k]?.getD 0))
theorem symsOf_snoc {n:Nat} {cs t:List Int} {j:Int}:symsOf n cs (t++[j])=symsOf n cs t++[symAt n cs t.length j]:=by
 unfold symsOf
 rw[List.length_append,List.length_singleton,List.range_succ,List.map_append,List.map_singleton,List.getElem?_append_right (by omega),Nat.sub_self]
 congr 1
 apply List.map_congr_left
 intro i hi
 rw[List.mem_range] at hi
 rw[List.getElem?_append_left (by omega)]
theorem transB_snoc {n:Nat} {cs t:List Int} {j:Int}:transB n cs (t++[j])=(transB n cs t&&decide (j ∉ t)&&decide (symAt n cs t.length j ∉ symsOf n cs t)):=by
 rw[Bool.eq_iff_iff,Bool.and_eq_true,Bool.and_eq_true,decide_eq_true_eq,decide_eq_true_eq]
 unfold transB
 rw[List.length_append,List.length_singleton,List.range_succ,List.all_append,Bool.and_eq_true]
 have hl:(t++[j])[t.length]?.getD 0=j:=by rw[List.getElem?_append_right (by omega),Nat.sub_self];rfl
 have hs:∀k,k<t.length→(t++[j])[k]?.getD 0=t[k]?.getD 0:=fun k hk=>by rw[List.getElem?_append_left hk]
 constructor
 ·rintro ⟨h1,h2⟩
  rw[List.all_eq_true] at h1 h2
  have h3:=h2 t.length (by simp)
  rw[List.all_eq_true] at h3
  refine ⟨⟨?_,?_⟩,?_⟩
  ·rw[List.all_eq_true]
   intro i hi
   have h4:=h1 i hi
   rw[List.all_eq_true] at h4 ⊢
   intro k hk
   have h5:=h4 k hk
   rw[List.mem_range] at hi hk
   rw[hs i hi,hs k (by omega)] at h5
   exact h5
  ·intro hm
   obtain ⟨k,hk,e⟩:=List.getElem_of_mem hm
   have h4:=h3 k (List.mem_range.2 hk)
   rw[hl,hs k hk,List.getElem?_eq_getElem hk,Option.getD_some,e] at h4
   simp at h4
  ·intro hm
   obtain ⟨k,hk,e⟩:=List.mem_map.1 hm
   have h4:=h3 k hk
   rw[hl,hs k (List.mem_range.1 hk),e] at h4
   simp at h4
 ·rintro ⟨⟨h1,h2⟩,h3⟩
  rw[List.all_eq_true] at h1
  constructor
  ·rw[List.all_eq_true]
   intro i hi
   have h4:=h1 i hi
   rw[List.all_eq_true] at h4 ⊢
   intro k hk
   have h5:=h4 k hk
   rw[List.mem_range] at hi hk
   rw[hs i hi,hs k (by omega)]
   exact h5
  ·rw[List.all_eq_true]
   intro i hi
   rw[List.mem_singleton] at hi
   subst hi
   rw[List.all_eq_true]
   intro k hk
   rw[List.mem_range] at hk
   rw[hl,hs k hk,Bool.not_eq_true',Bool.or_eq_false_iff,beq_eq_false_iff_ne,beq_eq_false_iff_ne]
   refine ⟨fun e=>h2 ?_,fun e=>h3 ?_⟩
   ·rw[e,List.getElem?_eq_getElem hk];exact List.getElem_mem hk
   ·rw[e];exact List.mem_map.2 ⟨k,List.mem_range.2 hk,rfl⟩
end
section
end
section
theorem nodupI_le:∀{l m:List Int},l.Nodup→(∀x,x∈l→x∈m)→l.length≤m.length
 | [],_,_,_=>Nat.zero_le _
 | x :: l,m,hn,hs=>by
  rw[List.nodup_cons] at hn
  have hx:=hs x List.mem_cons_self
  have h:=nodupI_le (l:=l) (m:=m.erase x) hn.2 (fun y hy=>(List.mem_erase_of_ne (fun e=>hn.1 (by rw[← e];exact hy))).2 (hs y (List.mem_cons_of_mem _ hy)))
  rw[List.length_erase_of_mem hx] at h
  have:=List.length_pos_of_mem hx
  simp only[List.length_cons]
  omega
end
section
def sumI:List Int→Int
 | []=>0
 | x :: l=>x+sumI l
theorem sumI_perm {a b:List Int} (h:a.Perm b):sumI a=sumI b:=by
 induction h with
 | nil=>rfl
 | cons x _ ih=>rw[sumI,sumI,ih]
 | swap x y l=>rw[sumI,sumI,sumI,sumI];omega
 | trans _ _ h1 h2=>rw[h1,h2]
theorem sumI_all:∀{n:Nat} {l:List Int},l.Nodup→(∀x,x∈l→0≤x∧x<(n:Int))→l.length=n→2*sumI l=(n:Int)*((n:Int) - 1):=by
 intro n
 induction n with
 | zero=>intro l _ _ h;rw[List.length_eq_zero_iff] at h;subst h;rfl
 | succ n ih =>
  intro l hn hr hl
  have hm:(n:Int)∈l:=by
   by_cases hm:(n:Int)∈l
   ·exact hm
   ·exfalso
    have h2:=nodupI_le (l:=l) (m:=(List.range n).map fun (i:Nat)=>(i:Int)) hn (fun x hx=>by
     have h1:=hr x hx
     have h3:x≠(n:Int):=fun e=>hm (e▸hx)
     exact List.mem_map.2 ⟨x.toNat,List.mem_range.2 (by omega),by omega⟩)
    rw[List.length_map,List.length_range] at h2
    omega
  have hp:=List.perm_cons_erase hm
  have hn2:(l.erase (n:Int)).Nodup:=hn.erase _
  have h:=ih (l:=l.erase (n:Int)) hn2 (fun x hx=>by
   have h1:=hr x (List.mem_of_mem_erase hx)
   have h2:x≠(n:Int):=fun e=>by
    rw[e] at hx
    exact (hn.not_mem_erase hx)
   omega) (by rw[List.length_erase_of_mem hm,hl];rfl)
  rw[sumI_perm hp,sumI]
  have e1:(((n+1:Nat):Int) - 1)=(n:Int):=by omega
  rw[e1,Int.mul_add,h,Int.mul_comm 2 (n:Int),← Int.mul_add]
  rw[Int.mul_comm]
  congr 1
  omega
theorem sumI_dvd {d:Int} {l:List Int} (h:∀x,x∈l→d ∣ x):d ∣ sumI l:=by
 induction l with
 | nil=>exact Int.dvd_zero d
 | cons x l ih=>rw[sumI];exact Int.dvd_add (h x List.mem_cons_self) (ih (fun y hy=>h y (List.mem_cons_of_mem _ hy)))
theorem sumI_sub3 {a b c:Nat→Int}:∀l:List Nat,sumI (l.map fun i=>a i - b i - c i)=sumI (l.map a) - sumI (l.map b) - sumI (l.map c)
 | []=>rfl
 | i :: l=>by simp only[List.map_cons,sumI];rw[sumI_sub3 l];omega
def delta (n:Nat) (cs:List Int) (c:Nat):Int:=(cs[c]?.getD 0 - ((c / n:Nat):Int) - ((c % n:Nat):Int)) % (n:Int)
def refuB (n:Nat) (cs:List Int) (d:Int):Bool:=decide (2≤d)&&decide ((n:Int) % d=0)&&decide ((((n*(n - 1) / 2:Nat):Int)) % d≠0)&&(List.range cs.length).all fun c=>decide (delta n cs c % d=0)
theorem row_lt {n i:Nat} {j:Int} (hi:i<n) (h0:0≤j) (h1:j<(n:Int)):i*n+j.toNat<n*n:=by
 have h2:i*n+n≤n*n:=by
  have:=Nat.mul_le_mul_right n (show i+1≤n by omega)
  rw[Nat.add_mul,Nat.one_mul] at this
  exact this
 omega
theorem row_div {n i:Nat} {j:Int} (h0:0≤j) (h1:j<(n:Int)):(i*n+j.toNat) / n=i∧(i*n+j.toNat) % n=j.toNat:=by
 have hj:j.toNat<n:=by omega
 constructor
 ·rw[Nat.add_comm,Nat.add_mul_div_right _ _ (by omega),Nat.div_eq_of_lt hj,Nat.zero_add]
 ·rw[Nat.add_comm,Nat.add_mul_mod_self_right,Nat.mod_eq_of_lt hj]
theorem transB_parts {n:Nat} {cs:List Int}:∀{m:Nat} {t:List Int},t.length=m→transB n cs t=true→t.Nodup∧(symsOf n cs t).Nodup:=by
 intro m
 induction m with
 | zero=>intro t h _;rw[List.length_eq_zero_iff] at h;subst h;exact ⟨List.nodup_nil,List.nodup_nil⟩
 | succ m ih =>
  intro t h ht
  obtain ⟨u,j,rfl⟩:∃u j,t=u++[j]:=⟨t.dropLast,t.getLast (by intro e;rw[e] at h;cases h),(List.dropLast_concat_getLast _).symm⟩
  rw[transB_snoc,Bool.and_eq_true,Bool.and_eq_true,decide_eq_true_eq,decide_eq_true_eq] at ht
  rw[List.length_append,List.length_singleton] at h
  obtain ⟨h1,h2⟩:=ih (by omega) ht.1.1
  rw[symsOf_snoc,List.nodup_append,List.nodup_append]
  exact ⟨⟨h1,by simp,fun a ha b hb e=>by simp at hb;subst hb;subst e;exact ht.1.2 ha⟩,h2,by simp,fun a ha b hb e=>by simp at hb;subst hb;subst e;exact ht.2 ha⟩
theorem refuted {n:Nat} {cs t:List Int} {d:Int} (L:Latin n cs) (hd:refuB n cs d=true) (ht:transB n cs t=true) (hl:t.length=n) (hr:∀x,x∈t→0≤x∧x<(n:Int)):False:=by
 obtain ⟨h1,h2⟩:=transB_parts hl ht
 unfold refuB at hd
 simp only[Bool.and_eq_true,decide_eq_true_eq,List.all_eq_true,List.mem_range] at hd
 obtain ⟨⟨⟨d1,d2⟩,d3⟩,d4⟩:=hd
 have hget:∀i,i<n→0≤t[i]?.getD 0∧t[i]?.getD 0<(n:Int):=fun i hi=>by
  rw[List.getElem?_eq_getElem (by omega),Option.getD_some]
  exact hr _ (List.getElem_mem _)
 have hsym:∀x,x∈symsOf n cs t→0≤x∧x<(n:Int):=fun x hx=>by
  obtain ⟨i,hi,e⟩:=List.mem_map.1 hx
  rw[List.mem_range] at hi
  have h3:=hget i (by omega)
  have h4:=row_lt (n:=n) (i:=i) (by omega) h3.1 h3.2
  unfold symAt at e
  rw[List.getElem?_eq_getElem (by rw[L.len];exact h4),Option.getD_some] at e
  rw[← e]
  exact L.num _ (List.getElem_mem _)
 have s1:=sumI_all h1 hr hl
 have s2:=sumI_all (n:=n) h2 hsym (by unfold symsOf;rw[List.length_map,List.length_range,hl])
 have s3:=sumI_all (n:=n) (l:=(List.range n).map fun (i:Nat)=>(i:Int)) (by
  rw[List.nodup_iff_pairwise_ne]
  exact (List.pairwise_map.2 ((List.pairwise_lt_range (n:=n)).imp (fun {a b} h e=>by omega)))) (fun x hx=>by
  obtain ⟨i,hi,e⟩:=List.mem_map.1 hx
  rw[List.mem_range] at hi
  omega) (by rw[List.length_map,List.length_range])
 have ht2:t=(List.range n).map fun i=>t[i]?.getD 0:=by
  apply List.ext_getElem
  ·rw[List.length_map,List.length_range,hl]
  ·intro i hi _
   rw[List.getElem_map,List.getElem_range,List.getElem?_eq_getElem hi,Option.getD_some]
 have hs2:symsOf n cs t=(List.range n).map fun i=>symAt n cs i (t[i]?.getD 0):=by unfold symsOf;rw[hl]
 have hsum:=sumI_sub3 (a:=fun i=>symAt n cs i (t[i]?.getD 0)) (b:=fun (i:Nat)=>(i:Int)) (c:=fun i=>t[i]?.getD 0) (List.range n)
 rw[← hs2,← ht2] at hsum
 have hdv:d ∣ sumI ((List.range n).map fun i=>symAt n cs i (t[i]?.getD 0) - (i:Int) - t[i]?.getD 0):=by
  apply sumI_dvd
  intro x hx
  obtain ⟨i,hi,e⟩:=List.mem_map.1 hx
  rw[List.mem_range] at hi
  have h3:=hget i hi
  have h4:=row_lt (n:=n) hi h3.1 h3.2
  have h5:=d4 (i*n+(t[i]?.getD 0).toNat) (by rw[L.len];exact h4)
  unfold delta at h5
  obtain ⟨q1,q2⟩:=row_div (n:=n) (i:=i) h3.1 h3.2
  rw[q1,q2] at h5
  have h6:(((t[i]?.getD 0).toNat:Nat):Int)=t[i]?.getD 0:=by omega
  rw[h6] at h5
  have h7:d ∣ (n:Int):=Int.dvd_of_emod_eq_zero d2
  have h8:d ∣ (cs[i*n+(t[i]?.getD 0).toNat]?.getD 0 - (i:Int) - t[i]?.getD 0) % (n:Int):=Int.dvd_of_emod_eq_zero h5
  have h9:d ∣ (n:Int)*((cs[i*n+(t[i]?.getD 0).toNat]?.getD 0 - (i:Int) - t[i]?.getD 0) / (n:Int)):=Int.dvd_trans h7 (Int.dvd_mul_right _ _)
  have h10:=Int.dvd_add h8 h9
  rw[Int.emod_add_mul_ediv] at h10
  rw[← e]
  exact h10
 rw[hsum] at hdv
 apply d3
 apply Int.emod_eq_zero_of_dvd
 have hhalf:((n*(n - 1) / 2:Nat):Int)=sumI t:=by
  have h11:((n*(n - 1):Nat):Int)=(n:Int)*((n:Int) - 1):=by
   have:=L.pos
   rw[Int.natCast_mul,Int.natCast_sub this]
   rfl
  omega
 rw[hhalf]
 have h12:sumI t = -(sumI (symsOf n cs t) - sumI ((List.range n).map fun (i:Nat)=>(i:Int)) - sumI t):=by omega
 rw[h12]
 exact Int.dvd_neg.2 hdv
end
section
def freeB (C:Nat) (cs:List Int) (c:Nat) (x:Int):Bool:=(List.range cs.length).all fun d=>!(d != c&&cs[d]?.getD 0==x&&lineB C d c)
theorem freeB_iff {C:Nat} {cs:List Int} {c:Nat} {x:Int}:freeB C cs c x=true↔∀d,d<cs.length→d≠c→cs[d]?.getD 0=x→lineB C d c=false:=by
 unfold freeB
 rw[List.all_eq_true]
 constructor
 ·intro h d hd h1 h2
  have:=h d (List.mem_range.2 hd)
  rw[h2] at this
  simpa [h1] using this
 ·intro h d hd
  rw[List.mem_range] at hd
  by_cases h1:d=c
  ·simp[h1]
  ·by_cases h2:cs[d]?.getD 0=x
   ·have:=h d hd h1 h2
    simp[this]
   ·simp[h2]
def compP (C:Nat) (ok:Nat→Int→List Int→Bool):Nat→Nat→List Int→List (List Int)
 | 0,_,cs=>[cs]
 | f+1,k,cs=>if 0≤cs[k]?.getD 0 then compP C ok f (k+1) cs else
   (List.range C).flatMap fun (x:Nat)=>if (ok k (x:Int) cs&&freeB C cs k (x:Int))=true then compP C ok f (k+1) (cs.set k (x:Int)) else []
theorem gset_get {cs:List Int} {k i:Nat} {x:Int} (hk:k<cs.length):(cs.set k x)[i]?.getD 0=if i=k then x else cs[i]?.getD 0:=by
 rw[List.getElem?_set]
 by_cases e:k=i
 ·subst e;simp[hk]
 ·rw[if_neg e,if_neg (fun h=>e h.symm)]
end
section
theorem lineB_comm {C c d:Nat}:lineB C c d=lineB C d c:=by
 unfold lineB
 rw[Bool.eq_iff_iff]
 simp only[Bool.or_eq_true,beq_iff_eq]
 constructor
 ·rintro (h|h)
  ·exact Or.inl h.symm
  ·exact Or.inr h.symm
 ·rintro (h|h)
  ·exact Or.inl h.symm
  ·exact Or.inr h.symm
def OnceP (C:Nat) (cs:List Int):Prop:=∀c d,c<cs.length→d<cs.length→c≠d→lineB C c d=true→cs[c]?.getD 0=cs[d]?.getD 0→cs[c]?.getD 0<0
theorem once_iff {C:Nat} {cs:List Int}:twiceB C cs=false↔OnceP C cs:=by
 rw[Bool.eq_false_iff,Ne,twiceB_true]
 constructor
 ·intro h c d hc hd hcd hl he
  by_cases h0:0≤cs[c]?.getD 0
  ·exfalso
   rcases Nat.lt_or_gt_of_ne hcd with h1|h1
   ·exact h ⟨d,c,hd,h1,by rw[lineB_comm];exact hl,he.symm,by omega⟩
   ·exact h ⟨c,d,hc,h1,hl,he,h0⟩
  ·omega
 ·rintro h ⟨c,d,hc,hd,hl,he,h0⟩
  have:=h c d hc (by omega) (by omega) hl he
  omega
theorem once_set {C:Nat} {cs:List Int} {k:Nat} {x:Int} (hk:k<cs.length) (h:OnceP C cs) (hf:freeB C cs k x=true):OnceP C (cs.set k x):=by
 intro c d hc hd hcd hl he
 rw[List.length_set] at hc hd
 rw[gset_get hk,gset_get hk] at he
 rw[gset_get hk]
 rw[freeB_iff] at hf
 by_cases h1:c=k
 ·subst h1
  rw[if_pos rfl,if_neg (fun e=>hcd e.symm)] at he
  have:=hf d hd (fun e=>hcd e.symm) he.symm
  rw[lineB_comm] at this
  rw[this] at hl
  cases hl
 ·rw[if_neg h1] at he ⊢
  by_cases h2:d=k
  ·subst h2
   rw[if_pos rfl] at he
   have:=hf c hc h1 he
   rw[this] at hl
   cases hl
  ·rw[if_neg h2] at he
   exact h c d hc hd hcd hl he
def HasG (cs X:List Int):Prop:=X.length=cs.length∧∀i,0≤cs[i]?.getD 0→i<cs.length→X[i]?.getD 0=cs[i]?.getD 0
theorem comp_sound {C:Nat} {ok:Nat→Int→List Int→Bool}:∀{f k:Nat} {cs X:List Int},k+f=cs.length→(∀i,i<k→0≤cs[i]?.getD 0)→(∀x,x∈cs→x<(C:Int))→OnceP C cs→X∈compP C ok f k cs →
  HasG cs X∧(∀i:Nat,0≤X[i]?.getD 0)∧(∀x,x∈X→x<(C:Int))∧OnceP C X:=by
 intro f
 induction f with
 | zero =>
  intro k cs X hk hb hv ho hX
  unfold compP at hX
  rw[List.mem_singleton] at hX
  subst hX
  refine ⟨⟨rfl,fun _ _ _=>rfl⟩,fun i=>?_,hv,ho⟩
  by_cases hi:i<k
  ·exact hb i hi
  ·rw[List.getElem?_eq_none (by omega)];decide
 | succ f ih =>
  intro k cs X hk hb hv ho hX
  unfold compP at hX
  by_cases h0:0≤cs[k]?.getD 0
  ·rw[if_pos h0] at hX
   exact ih (by omega) (fun i hi=>if e:i=k then e▸h0 else hb i (by omega)) hv ho hX
  ·rw[if_neg h0] at hX
   obtain ⟨x,hx,hX⟩:=List.mem_flatMap.1 hX
   rw[List.mem_range] at hx
   by_cases hf:(ok k (x:Int) cs&&freeB C cs k (x:Int))=true
   ·rw[if_pos hf] at hX
    rw[Bool.and_eq_true] at hf
    have hkl:k<cs.length:=by omega
    obtain ⟨h1,h2,h3,h4⟩:=ih (cs:=cs.set k (x:Int)) (by rw[List.length_set];omega) (fun i hi=>by
     rw[gset_get hkl]
     by_cases e:i=k
     ·rw[if_pos e];omega
     ·rw[if_neg e];exact hb i (by omega)) (fun y hy=>by
     rcases List.mem_or_eq_of_mem_set hy with h|h
     ·exact hv y h
     ·omega) (once_set hkl ho hf.2) hX
    refine ⟨⟨by rw[h1.1,List.length_set],fun i hi hil=>?_⟩,h2,h3,h4⟩
    have hik:i≠k:=fun e=>h0 (e▸hi)
    have h5:=h1.2 i (by rw[gset_get hkl,if_neg hik];exact hi) (by rw[List.length_set];exact hil)
    rw[gset_get hkl,if_neg hik] at h5
    exact h5
   ·rw[if_neg hf] at hX
    cases hX
theorem comp_all {C:Nat}:∀{f k:Nat} {cs X:List Int},k+f=cs.length→(∀i,i<k→0≤cs[i]?.getD 0)→HasG cs X→(∀x,x∈X→0≤x∧x<(C:Int))→OnceP C X→X∈compP C (fun _ _ _=>true) f k cs:=by
 intro f
 induction f with
 | zero =>
  intro k cs X hk hb hh hv ho
  unfold compP
  rw[List.mem_singleton]
  apply List.ext_getElem hh.1
  intro i hi hi2
  have h1:=hh.2 i (hb i (by omega)) hi2
  rw[List.getElem?_eq_getElem hi,List.getElem?_eq_getElem hi2,Option.getD_some,Option.getD_some] at h1
  exact h1
 | succ f ih =>
  intro k cs X hk hb hh hv ho
  unfold compP
  by_cases h0:0≤cs[k]?.getD 0
  ·rw[if_pos h0]
   exact ih (by omega) (fun i hi=>if e:i=k then e▸h0 else hb i (by omega)) hh hv ho
  ·rw[if_neg h0,List.mem_flatMap]
   have hkl:k<cs.length:=by omega
   have hXk:k<X.length:=by rw[hh.1];exact hkl
   have hv1:=hv _ (List.getElem_mem hXk)
   have hXe:X[k]?.getD 0=X[k]:=by rw[List.getElem?_eq_getElem hXk,Option.getD_some]
   refine ⟨(X[k]).toNat,List.mem_range.2 (by omega),?_⟩
   have e1:(((X[k]).toNat:Nat):Int)=X[k]:=by omega
   rw[e1]
   have hf:freeB C cs k X[k]=true:=by
    rw[freeB_iff]
    intro d hd hdk he
    rw[Bool.eq_false_iff]
    intro hl
    have h2:=hh.2 d (by rw[he];exact hv1.1) hd
    have h3:=ho d k (by rw[hh.1];exact hd) hXk hdk hl (by rw[h2,he,hXe])
    rw[h2,he] at h3
    omega
   rw[if_pos (by rw[hf];rfl)]
   refine ih (by rw[List.length_set];omega) (fun i hi=>?_) ⟨by rw[hh.1,List.length_set],fun i hi hil=>?_⟩ hv ho
   ·rw[gset_get hkl]
    by_cases e:i=k
    ·rw[if_pos e];exact hv1.1
    ·rw[if_neg e];exact hb i (by omega)
   ·rw[List.length_set] at hil
    rw[gset_get hkl] at hi ⊢
    by_cases e:i=k
    ·rw[if_pos e,e,hXe]
    ·rw[if_neg e] at hi ⊢
     exact hh.2 i hi hil
end
section
def pairEq (cs ds:List Int) (c d:Nat):Bool:=cs[c]?.getD 0==cs[d]?.getD 0&&ds[c]?.getD 0==ds[d]?.getD 0
def meetAt (cs ds:List Int) (d:Nat):Option Nat:=(List.range d).find? fun c=>pairEq cs ds c d
def meetR (cs ds:List Int):Option (Nat × Nat):=(List.range cs.length).findSome? fun d=>(meetAt cs ds d).map fun c=>(c,d)
def Ortho (cs ds:List Int):Prop:=∀c d,c<d→d<cs.length→pairEq cs ds c d=false
theorem meetAt_none {cs ds:List Int} {d:Nat}:meetAt cs ds d=none↔∀c,c<d→pairEq cs ds c d=false:=by
 unfold meetAt
 rw[List.find?_eq_none]
 constructor
 ·intro h c hc;have:=h c (List.mem_range.2 hc);simpa using this
 ·intro h c hc;rw[List.mem_range] at hc;rw[h c hc];decide
theorem meetR_none {cs ds:List Int}:meetR cs ds=none↔Ortho cs ds:=by
 unfold meetR
 rw[List.findSome?_eq_none_iff]
 constructor
 ·intro h c d hc hd
  have h1:=h d (List.mem_range.2 hd)
  rw[Option.map_eq_none_iff,meetAt_none] at h1
  exact h1 c hc
 ·intro h d hd
  rw[List.mem_range] at hd
  rw[Option.map_eq_none_iff,meetAt_none]
  exact fun c hc=>h c d hc hd
theorem findSome_first {α:Type} {g:Nat→Option α} {d:Nat} {x:α}:∀{n:Nat},d<n→(∀i,i<d→g i=none)→g d=some x→(List.range n).findSome? g=some x:=by
 intro n
 induction n with
 | zero=>intro h;omega
 | succ n ih =>
  intro hd hb hx
  rw[List.range_succ,List.findSome?_append]
  by_cases e:d=n
  ·subst e
   have:(List.range d).findSome? g=none:=List.findSome?_eq_none_iff.2 (fun i hi=>hb i (List.mem_range.1 hi))
   rw[this]
   simp[hx]
  ·rw[ih (by omega) hb hx]
   rfl
theorem full_mem {n:Nat} {l:List Int} (hn:l.Nodup) (hl:l.length=n) (hr:∀y,y∈l→0≤y∧y<(n:Int)) {x:Int} (h0:0≤x) (h1:x<(n:Int)):x∈l:=by
 by_cases hm:x∈l
 ·exact hm
 ·exfalso
  have hx:x∈(List.range n).map fun (i:Nat)=>(i:Int):=List.mem_map.2 ⟨x.toNat,List.mem_range.2 (by omega),by omega⟩
  have h2:=nodupI_le (l:=l) (m:=((List.range n).map fun (i:Nat)=>(i:Int)).erase x) hn (fun y hy=>by
   have h3:=hr y hy
   have h4:y≠x:=fun e=>hm (e▸hy)
   exact (List.mem_erase_of_ne h4).2 (List.mem_map.2 ⟨y.toNat,List.mem_range.2 (by omega),by omega⟩))
  rw[List.length_erase_of_mem hx,List.length_map,List.length_range] at h2
  omega
theorem gcell_div {n i j:Nat} (hj:j<n):(i*n+j) / n=i∧(i*n+j) % n=j:=by
 constructor
 ·rw[Nat.add_comm,Nat.add_mul_div_right _ _ (by omega),Nat.div_eq_of_lt hj,Nat.zero_add]
 ·rw[Nat.add_comm,Nat.add_mul_mod_self_right,Nat.mod_eq_of_lt hj]
theorem gcell_lt {n i j:Nat} (hi:i<n) (hj:j<n):i*n+j<n*n:=by
 have:=Nat.mul_le_mul_right n (show i+1≤n by omega)
 rw[Nat.add_mul,Nat.one_mul] at this
 omega
theorem Latin.get {n:Nat} {cs:List Int} (L:Latin n cs) {c:Nat} (hc:c<n*n):0≤cs[c]?.getD 0∧cs[c]?.getD 0<(n:Int):=by
 rw[List.getElem?_eq_getElem (by rw[L.len];exact hc),Option.getD_some]
 exact L.num _ (List.getElem_mem _)
theorem Latin.row {n:Nat} {cs:List Int} (L:Latin n cs) {i:Nat} (hi:i<n) {x:Int} (h0:0≤x) (h1:x<(n:Int)):∃j,j<n∧cs[i*n+j]?.getD 0=x:=by
 have ho:=once_iff.1 L.once
 have hm:=full_mem (n:=n) (l:=(List.range n).map fun j=>cs[i*n+j]?.getD 0) (by
  rw[List.nodup_iff_pairwise_ne,List.pairwise_map]
  refine (List.pairwise_lt_range (n:=n)).imp_of_mem (fun {a b} ha hb hab e=>?_)
  rw[List.mem_range] at ha hb
  have h2:=ho (i*n+a) (i*n+b) (by rw[L.len];exact gcell_lt hi ha) (by rw[L.len];exact gcell_lt hi hb) (by omega) (by unfold lineB;rw[(gcell_div ha).1,(gcell_div hb).1];simp) e
  have h3:=L.get (gcell_lt hi ha)
  omega) (by rw[List.length_map,List.length_range]) (fun y hy=>by
  obtain ⟨j,hj,e⟩:=List.mem_map.1 hy
  rw[← e]
  exact L.get (gcell_lt hi (List.mem_range.1 hj))) h0 h1
 obtain ⟨j,hj,e⟩:=List.mem_map.1 hm
 exact ⟨j,List.mem_range.1 hj,e⟩
theorem orth_trans {n:Nat} {cs ds:List Int} (L:Latin n cs) (D:Latin n ds) (hO:Ortho cs ds) {x:Int} (h0:0≤x) (h1:x<(n:Int)):∃t:List Int,t.length=n∧(∀y,y∈t→0≤y∧y<(n:Int))∧transB n cs t=true∧∀i,i<n→symAt n ds i (t[i]?.getD 0)=x:=by
 have hc:∀m,m≤n→∃t:List Int,t.length=m∧(∀y,y∈t→0≤y∧y<(n:Int))∧∀i,i<m→symAt n ds i (t[i]?.getD 0)=x:=by
  intro m
  induction m with
  | zero=>intro _;exact ⟨[],rfl,by simp,fun i hi=>absurd hi (by omega)⟩
  | succ m ih =>
   intro hm
   obtain ⟨t,a1,a2,a3⟩:=ih (by omega)
   obtain ⟨j,hj,e⟩:=D.row (i:=m) (by omega) h0 h1
   refine ⟨t++[(j:Int)],by rw[List.length_append,List.length_singleton,a1],fun y hy=>?_,fun i hi=>?_⟩
   ·rcases List.mem_append.1 hy with hy|hy
    ·exact a2 y hy
    ·rw[List.mem_singleton] at hy;omega
   ·by_cases e2:i=m
    ·subst e2
     rw[List.getElem?_append_right (by omega),a1,Nat.sub_self]
     exact e
    ·rw[List.getElem?_append_left (by omega)]
     exact a3 i (by omega)
 obtain ⟨t,a1,a2,a3⟩:=hc n (Nat.le_refl _)
 refine ⟨t,a1,a2,?_,a3⟩
 unfold transB
 rw[List.all_eq_true]
 intro i hi
 rw[List.mem_range,a1] at hi
 rw[List.all_eq_true]
 intro k hk
 rw[List.mem_range] at hk
 have hg:∀i,i<n→0≤t[i]?.getD 0∧t[i]?.getD 0<(n:Int):=fun i hi=>by
  rw[List.getElem?_eq_getElem (by omega),Option.getD_some]
  exact a2 _ (List.getElem_mem _)
 have gi:=hg i hi
 have gk:=hg k (by omega)
 have ci:=row_lt (n:=n) hi gi.1 gi.2
 have ck:=row_lt (n:=n) (show k<n by omega) gk.1 gk.2
 obtain ⟨di,mi⟩:=row_div (n:=n) (i:=i) gi.1 gi.2
 obtain ⟨dk,mk⟩:=row_div (n:=n) (i:=k) gk.1 gk.2
 have hne:k*n+(t[k]?.getD 0).toNat≠i*n+(t[i]?.getD 0).toNat:=fun e=>by rw[← e,dk] at di;omega
 have hlt:k*n+(t[k]?.getD 0).toNat<i*n+(t[i]?.getD 0).toNat:=by
  have:=Nat.mul_le_mul_right n (show k+1≤i by omega)
  rw[Nat.add_mul,Nat.one_mul] at this
  omega
 have xi:=a3 i hi
 have xk:=a3 k (by omega)
 unfold symAt at xi xk
 rw[Bool.not_eq_true',Bool.or_eq_false_iff,beq_eq_false_iff_ne,beq_eq_false_iff_ne]
 constructor
 ·intro e
  have h2:=once_iff.1 D.once _ _ (by rw[D.len];exact ck) (by rw[D.len];exact ci) hne (by unfold lineB;rw[mk,mi,e];simp) (by rw[xk,xi])
  omega
 ·intro e
  have h2:=hO _ _ hlt (by rw[L.len];exact ci)
  unfold symAt at e
  unfold pairEq at h2
  rw[xk,xi,e] at h2
  simp at h2
theorem refuted_mate {n:Nat} {cs ds:List Int} {d:Int} (L:Latin n cs) (D:Latin n ds) (hd:refuB n cs d=true):¬Ortho cs ds:=fun hO=>by
 obtain ⟨t,a1,a2,a3,_⟩:=orth_trans L D hO (x:=0) (Int.le_refl _) (by have:=L.pos;omega)
 exact refuted L hd a3 a1 a2
end
section
open Go Go.RowKit
attribute [local go_sem] over_cell
attribute [local go_sem] Oper.semAt_some
def GridE (w:World) (r C:Int) (cs:List Int) (er:Int) (e:Ending) (w':World):Prop :=
 ∃a c,e = .returned (.tuple #[.agg #[.int .i64 r,.int .i64 C,.slice a cs.length c],.int .i64 er])∧w'.ownsRow w.heap.size 3 1 (.slice a cs.length c) cs.length (cs.map (Value.int .i64))∧Below w.heap.size w w'
def GridM (w:World) (r C:Int) (cs:List Int) (e:Ending) (w':World):Prop :=
 ∃a c,e = .returned (.agg #[.int .i64 r,.int .i64 C,.slice a cs.length c])∧w'.ownsRow w.heap.size 3 1 (.slice a cs.length c) cs.length (cs.map (Value.int .i64))∧Below w.heap.size w w'
section
variable {W:World} {b:Nat} {u0 u1 u2 x0 x1 x2:Value} {T:TypeId}
theorem st3_q (q:W.heap[b]?=some (.cells #[u0,u1,u2] T (0,0))):(((W.setCell ⟨b,0,none⟩ x0).setCell ⟨b,1,none⟩ x1).setCell ⟨b,2,none⟩ x2).heap[b]?=some (.cells #[x0,x1,x2] T (0,0)):=q_set (i:=2) (q_set (i:=1) (q_set (i:=0) q x0) x1) x2
theorem st3_own {B n:Nat} {e:TypeId} {v:Value} {xs:List Value} (h:W.ownsRow B e 1 v n xs) (hb:v.ownBlock≠some b):(((W.setCell ⟨b,0,none⟩ x0).setCell ⟨b,1,none⟩ x1).setCell ⟨b,2,none⟩ x2).ownsRow B e 1 v n xs :=
 ownsRow_setCell_other (ownsRow_setCell_other (ownsRow_setCell_other h (a:=⟨b,0,none⟩) hb x0) (a:=⟨b,1,none⟩) hb x1) (a:=⟨b,2,none⟩) hb x2
theorem st3_below {B:Nat} {w:World} (h:Below B w W) (hb:B≤b):Below B w (((W.setCell ⟨b,0,none⟩ x0).setCell ⟨b,1,none⟩ x1).setCell ⟨b,2,none⟩ x2) :=
 ((h.setCell (p:=⟨b,0,none⟩) hb x0).setCell (p:=⟨b,1,none⟩) hb x1).setCell (p:=⟨b,2,none⟩) hb x2
end
theorem c1_of {w:World} {b:Nat} {v0:Value} {T:TypeId} (h:w.heap[b]?=some (.cells #[v0] T (0,0))):w.cell? ⟨b,0,none⟩=some v0∧w.frozen? ⟨b,0,none⟩=false∧b<w.heap.size:=⟨q_cell h 0,q_free h 0,q_lt h⟩
theorem f3_of {w:World} {b:Nat} {v0 v1 v2:Value} {T:TypeId} (h:w.heap[b]?=some (.cells #[v0,v1,v2] T (0,0))):w.frozen? ⟨b,0,none⟩=false∧w.frozen? ⟨b,1,none⟩=false∧w.frozen? ⟨b,2,none⟩=false:=⟨q_free h 0,q_free h 1,q_free h 2⟩
theorem made_g (N:Nat) (hN:N≤256) (fk:Nat) (fst caps:Array Value) (s:Nat→Nat→Int) (cs:List Int) (w:World) (hcs:cs=madeTo N s (N*N))
  (hcf:∀args w,Sem.run Try.prog (callFunc fk args) w = .ok (.enter fk args) w)
  (hs:∀i j:Nat,i<N→j<N→∀W,Below w.heap.size w W→Calls Try.prog fk (fst++(#[.int .i64 (i:Int),.int .i64 (j:Int)]++caps)) W (fun e w'=>e = .returned (.int .i64 (s i j))∧Below W.heap.size W w')) :
  Calls Try.prog 23 #[.int .i64 (N:Int),.func (.func fk) fst caps] w (GridM w (N:Int) (N:Int) cs):=by
 refine (made_c N hN fk fst caps s w hcf hs).mono ?_
 rintro e w' ⟨v,rfl,hown,hb⟩
 obtain ⟨a,c,rfl⟩:=owns_shape hown
 have hl:cs.length=N*N:=by rw[hcs,madeTo_len]
 refine ⟨a,c,by rw[hl],?_,hb⟩
 rw[hl,hcs];exact hown
end
end Go.Proofs.Ytceombamoikhdaa
