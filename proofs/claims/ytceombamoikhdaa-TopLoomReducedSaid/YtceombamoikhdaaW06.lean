/- Texts J27 to J29 of this proof, in one file. -/
import Derived.Test.YtceombamoikhdaaW03
import Derived.Test.YtceombamoikhdaaW05
import Derived.WideKeyPair
import Derived.DeepKeys4
namespace Go.Proofs.Ytceombamoikhdaa
set_option maxRecDepth 100000
set_option maxHeartbeats 16000000
section
open Go Go.RowKit
attribute [local go_sem] over_cell
attribute [local go_sem] Oper.semAt_some
structure Sq (n:Nat) (cs:List Int):Prop where
 n1:1≤n
 n2:n≤16
 len:cs.length=n*n
 num:∀k:Nat,0≤cs[k]?.getD 0∧cs[k]?.getD 0<(n:Int)
theorem Latin.sq {n:Nat} {cs:List Int} (L:Latin n cs):Sq n cs:=⟨L.pos,L.le,L.len,fun k=>by
 by_cases h:k<n*n
 ·exact L.get h
 ·rw[List.getElem?_eq_none (by rw[L.len];omega)]
  have:=L.pos
  exact ⟨Int.le_refl _,by show (0:Int)<n;omega⟩⟩
theorem half_mod {n D:Nat} (h1:1≤n) (h2:n≤16):((wrap64 ((wrap64 ((n:Int)*((n:Int) - 1))).tdiv 2)).tmod (D:Int)==0)=!decide ((((n*(n - 1) / 2:Nat):Int)) % (D:Int)≠0):=by
 have e:(n:Int)*((n:Int) - 1)=((n*(n - 1):Nat):Int):=by
  rw[Int.natCast_mul,Int.natCast_sub h1];rfl
 have hp:n*(n - 1)≤16*15:=Nat.mul_le_mul h2 (by omega)
 rw[e]
 generalize n*(n - 1)=p at hp ⊢
 have e2:wrap64 (p:Int)=(p:Int):=by unfold wrap64;omega
 have e3:(p:Int).tdiv 2=((p / 2:Nat):Int):=by rw[Int.tdiv_eq_ediv_of_nonneg (by omega)];omega
 have e4:wrap64 ((p / 2:Nat):Int)=((p / 2:Nat):Int):=by unfold wrap64;omega
 rw[e2,e3,e4,Int.tmod_eq_emod_of_nonneg (by omega)]
 generalize ((p / 2:Nat):Int) % (D:Int)=y
 by_cases h:y=0
 ·simp[h]
 ·simp[h]
def RefTo (n:Nat) (cs:List Int) (d:Int) (k:Nat):Prop:=∀j,j<k→delta n cs j % d=0
theorem lrefutes_c (n:Nat) (a:Option Addr) (m c:Nat) (cs:List Int) (d:Int) (w:World) (h:IC w a m cs) (S:Sq n cs) :
  Calls Try.prog 19 #[.agg #[.int .i64 (n:Int),.int .i64 (n:Int),.slice a m c],.int .i64 d] w fun e w'=>e = .returned (.bool (refuB n cs d))∧Below w.heap.size w w':=by
 have hm:=h.small
 have hn1:=S.n1
 have hn2:=S.n2
 have HL:=Lib.hid h.len
 by_cases h2:d<2
 ·have HE:Hid (refuB n cs d=false):=by unfold Hid refuB;rw[decide_eq_false (show ¬(2:Int)≤d by omega)];simp
  have hd:decide (d<2)=true:=decide_eq_true h2
  go_enter Try.func19,Try.ntmps19
  go_wp2_with fail
  have fB:Below w.heap.size w (w.alloc (.cells #[.int .i64 (n:Int),.int .i64 (n:Int),.slice a m c] 24)):=(Below.refl _ _).alloc (Nat.le_refl _) _
  have FQ:Hid ((w.alloc (.cells #[.int .i64 (n:Int),.int .i64 (n:Int),.slice a m c] 24)).heap[w.heap.size]?=some (.cells #[.int .i64 (n:Int),.int .i64 (n:Int),.slice a m c] 24 (0,0))):=World.alloc_heap_new _ _
  generalize (w.alloc (.cells #[.int .i64 (n:Int),.int .i64 (n:Int),.slice a m c] 24))=W0 at fB FQ ⊢
  obtain ⟨x0,x1,x2,xl⟩:=c3_of FQ.out
  go_wp2_with fail
  go_ret
  exact ⟨ret_bool HE.out.symm,fB⟩
 ·have hd:decide (d<2)=false:=decide_eq_false h2
  obtain ⟨D,rfl⟩:=Int.eq_ofNat_of_zero_le (show 0≤d by omega)
  have hne:(D:Int)≠0:=by omega
  by_cases h3:(n:Int) % (D:Int)=0
  ·have hd3:((n:Int) % (D:Int) != 0)=false:=by rw[h3];rfl
   have hT:=half_mod (D:=D) hn1 hn2
   by_cases h4:(((n*(n - 1) / 2:Nat):Int)) % (D:Int)=0
   ·rw[decide_eq_false (show ¬((((n*(n - 1) / 2:Nat):Int)) % (D:Int)≠0) from fun e=>e h4)] at hT
    have HE:Hid (refuB n cs (D:Int)=false):=by unfold Hid refuB;rw[decide_eq_false (show ¬((((n*(n - 1) / 2:Nat):Int)) % (D:Int)≠0) from fun e=>e h4)];simp
    clear h4
    go_enter Try.func19,Try.ntmps19
    go_wp2_with fail
    have fB:Below w.heap.size w (w.alloc (.cells #[.int .i64 (n:Int),.int .i64 (n:Int),.slice a m c] 24)):=(Below.refl _ _).alloc (Nat.le_refl _) _
    have FQ:Hid ((w.alloc (.cells #[.int .i64 (n:Int),.int .i64 (n:Int),.slice a m c] 24)).heap[w.heap.size]?=some (.cells #[.int .i64 (n:Int),.int .i64 (n:Int),.slice a m c] 24 (0,0))):=World.alloc_heap_new _ _
    generalize (w.alloc (.cells #[.int .i64 (n:Int),.int .i64 (n:Int),.slice a m c] 24))=W0 at fB FQ ⊢
    obtain ⟨x0,x1,x2,xl⟩:=c3_of FQ.out
    go_wp2_with fail
    go_ret
    exact ⟨ret_bool HE.out.symm,fB⟩
   ·rw[decide_eq_true (show ((((n*(n - 1) / 2:Nat):Int)) % (D:Int)≠0) from h4)] at hT
    have HE:Hid (refuB n cs (D:Int)=(List.range cs.length).all fun c=>decide (delta n cs c % (D:Int)=0)):=by
     unfold Hid refuB
     rw[decide_eq_true h3,decide_eq_true (show (2:Int)≤(D:Int) by omega),decide_eq_true (show ((((n*(n - 1) / 2:Nat):Int)) % (D:Int)≠0) from h4)]
     simp
    clear h4
    have h0:=Lib.hid h
    go_enter Try.func19,Try.ntmps19
    go_wp2_with fail
    have fB:Below w.heap.size w (w.alloc (.cells #[.int .i64 (n:Int),.int .i64 (n:Int),.slice a m c] 24)):=(Below.refl _ _).alloc (Nat.le_refl _) _
    have FQ:Hid ((w.alloc (.cells #[.int .i64 (n:Int),.int .i64 (n:Int),.slice a m c] 24)).heap[w.heap.size]?=some (.cells #[.int .i64 (n:Int),.int .i64 (n:Int),.slice a m c] 24 (0,0))):=World.alloc_heap_new _ _
    generalize (w.alloc (.cells #[.int .i64 (n:Int),.int .i64 (n:Int),.slice a m c] 24))=W0 at fB FQ ⊢
    obtain ⟨x0,x1,x2,xl⟩:=c3_of FQ.out
    replace h0:=Lib.hid (h0.out.mono fB)
    clear h
    go_wp2_with fail
    go_loopw [6,7,31] (fun _ _ s wr=>∃k:Nat,k≤m∧s = .int .i64 k∧Hid (RefTo n cs (D:Int) k)∧Below W0.heap.size W0 wr) (fun _ _ s _=>m - (intOf s).toNat)
    case atStart=>exact ⟨0,by omega,rfl,fun j hj=>absurd hj (by omega),Below.refl _ _⟩
    case round =>
     obtain ⟨k,hk,rfl,hr,hbr⟩:=hrel
     clear x0 x1 x2 xl hd3 hT
     by_cases hlt:k<m
     ·obtain ⟨b,off,rfl,hb,hc⟩:=(h0.out.mono hbr).2 k hlt
      have hki:(k:Int)<(m:Int):=by omega
      have hmq:m=n*n:=by rw[← HL.out,S.len]
      have hkn:k<n*n:=by omega
      have hmb:m≤256:=by rw[hmq];exact Nat.le_trans (Nat.mul_le_mul hn2 hn2) (by decide)
      obtain ⟨q,hq⟩:∃q,q=k / n:=⟨_,rfl⟩
      obtain ⟨r,hr2⟩:∃r,r=k % n:=⟨_,rfl⟩
      have hqb:q<n:=by rw[hq];exact Nat.div_lt_of_lt_mul hkn
      have hrb:r<n:=by rw[hr2];exact Nat.mod_lt _ (by omega)
      have hdv:wrap64 ((k:Int) / (n:Int))=(q:Int):=by rw[divw (by omega),hq]
      have hmv:(k:Int) % (n:Int)=(r:Int):=by rw[modw,hr2]
      have hx:=S.num k
      have HD:Hid (delta n cs k=(cs[k]?.getD 0 - (q:Int) - (r:Int)) % (n:Int)):=by unfold Hid delta;rw[hq,hr2]
      obtain ⟨x,hxe⟩:∃x,x=cs[k]?.getD 0:=⟨_,rfl⟩
      rw[← hxe] at hx hc HD
      have HM:=Lib.hid (fun W=>modulo_c (x - (q:Int) - (r:Int)) n W hn1 (by omega))
      rw[← HD.out] at HM
      have hdl:0≤delta n cs k∧delta n cs k<(n:Int):=by rw[HD.out];exact ⟨Int.emod_nonneg _ (by omega),Int.emod_lt_of_pos _ (by omega)⟩
      have HN:=Lib.hid (fun (e:delta n cs k % (D:Int)=0)=>show RefTo n cs (D:Int) (k+1) from fun j hj=>by
       rcases Nat.lt_or_ge j k with e2|e2
       ·exact hr.out j e2
       ·rw[show j=k by omega];exact e)
      have HF:=Lib.hid (fun (e:delta n cs k % (D:Int)≠0)=>show refuB n cs (D:Int)=false from by
       rw[HE.out,List.all_eq_false]
       exact ⟨k,List.mem_range.2 (by rw[HL.out];exact hlt),by simpa using e⟩)
      generalize delta n cs k=dl at HM hdl HN HF
      clear hq hr2 hxe HD hmq hkn
      have hnI:(n:Int)≠0:=by omega
      cases ht:(dl % (D:Int) != 0) with
      | true =>
       go_wp2_with fail
       refine wp_region_S (fun w'=>∃u,w'=over (wr) u) [] [(0,0),(0,1),(0,2),(0,3),(0,4),(0,5),(0,6),(0,7),(0,8),(0,9),(0,11),(1,10),(0,12),(0,13)] (by kernel_rfl) (by kernel_rfl) (by exact ⟨_,below_over (by repeat (first|assumption|exact Below.refl _ _|refine keep_drew ?_|refine keep_alloc ?_ _|refine keep_trans ?_ (by assumption)))⟩) ?_
       dsimp only[pickOps,nthOp]
       repeat (first|(refine wpS_skip rfl (fun K hK=>?_);go_big_quiet_op;refine hK _ ?_;clear hK K)|(refine wpS_quiet rfl rfl (fun K hK=>?_);go_big_quiet_op;refine hK _ ?_;clear hK K)|(refine wpS_loud ?_;go_wp2_with ((go_at_call 44;refine (HM.out _).mono ?_;rintro _ w1 ⟨rfl,rfl⟩));refine ⟨?_,?_⟩;focus (exact ⟨_,below_over (by repeat (first|assumption|exact Below.refl _ _|refine keep_drew ?_|refine keep_alloc ?_ _|refine keep_trans ?_ (by assumption)))⟩)))
       refine wpS_end ?_
       go_wp2_with fail
       go_ret
       exact ⟨ret_bool (HF.out (by simpa using ht)).symm,(fB.trans (hbr.mono fB.size)).drew⟩
      | false =>
       go_wp2_with fail
       refine wp_region_S (fun w'=>∃u,w'=over (wr) u) [] [(0,0),(0,1),(0,2),(0,3),(0,4),(0,5),(0,6),(0,7),(0,8),(0,9),(0,11),(1,10),(0,12),(0,13)] (by kernel_rfl) (by kernel_rfl) (by exact ⟨_,below_over (by repeat (first|assumption|exact Below.refl _ _|refine keep_drew ?_|refine keep_alloc ?_ _|refine keep_trans ?_ (by assumption)))⟩) ?_
       dsimp only[pickOps,nthOp]
       repeat (first|(refine wpS_skip rfl (fun K hK=>?_);go_big_quiet_op;refine hK _ ?_;clear hK K)|(refine wpS_quiet rfl rfl (fun K hK=>?_);go_big_quiet_op;refine hK _ ?_;clear hK K)|(refine wpS_loud ?_;go_wp2_with ((go_at_call 44;refine (HM.out _).mono ?_;rintro _ w1 ⟨rfl,rfl⟩));refine ⟨?_,?_⟩;focus (exact ⟨_,below_over (by repeat (first|assumption|exact Below.refl _ _|refine keep_drew ?_|refine keep_alloc ?_ _|refine keep_trans ?_ (by assumption)))⟩)))
       refine wpS_end ?_
       go_wp2_with fail
       go_roundw
       case rel=>exact ⟨k+1,by omega,by go_num,HN.out (by simpa using ht),hbr.drew⟩
       case measure=>simp[intOf];omega
     ·have e:k=m:=by omega
      subst e
      go_wp2_with fail
      go_ret
      refine ⟨ret_bool ?_,fB.trans (hbr.mono fB.size)⟩
      rw[HE.out,Bool.eq_iff_iff,List.all_eq_true]
      exact ⟨fun _ j hj=>by rw[List.mem_range,HL.out] at hj;exact decide_eq_true (hr.out j hj),fun _=>rfl⟩
  ·have hd3:((n:Int) % (D:Int) != 0)=true:=by simpa using h3
   have HE:Hid (refuB n cs (D:Int)=false):=by unfold Hid refuB;rw[decide_eq_false h3];simp
   go_enter Try.func19,Try.ntmps19
   go_wp2_with fail
   have fB:Below w.heap.size w (w.alloc (.cells #[.int .i64 (n:Int),.int .i64 (n:Int),.slice a m c] 24)):=(Below.refl _ _).alloc (Nat.le_refl _) _
   have FQ:Hid ((w.alloc (.cells #[.int .i64 (n:Int),.int .i64 (n:Int),.slice a m c] 24)).heap[w.heap.size]?=some (.cells #[.int .i64 (n:Int),.int .i64 (n:Int),.slice a m c] 24 (0,0))):=World.alloc_heap_new _ _
   generalize (w.alloc (.cells #[.int .i64 (n:Int),.int .i64 (n:Int),.slice a m c] 24))=W0 at fB FQ ⊢
   obtain ⟨x0,x1,x2,xl⟩:=c3_of FQ.out
   go_wp2_with fail
   go_ret
   exact ⟨ret_bool HE.out.symm,fB⟩
def leastR (n:Nat) (cs:List Int):Option Nat:=(List.range (n+1)).find? fun d=>refuB n cs (d:Int)
def refV (n:Nat) (cs:List Int):Int:=(leastR n cs).elim 0 fun d=>(d:Int)
def refEr (n:Nat) (cs:List Int):Int:=(leastR n cs).elim 7 fun _=>0
theorem find_range {p:Nat→Bool} {k m:Nat} (hk:k<m) (hb:∀j,j<k→p j=false) (hp:p k=true):(List.range m).find? p=some k:=by
 rw[List.find?_eq_some_iff_append]
 refine ⟨hp,List.range k,(List.range' (k+1) (m - k - 1)),?_,fun j hj=>by rw[hb j (List.mem_range.1 hj)];rfl⟩
 rw[← List.range'_succ,List.range_eq_range',List.range_eq_range',show m=k+(m - k) by omega]
 have:=List.range'_append (s:=0) (m:=k) (n:=m - k) (step:=1)
 rw[show k+(m - k) - k - 1+1=m - k by omega,← this]
 congr 1
 simp
theorem find_none {p:Nat→Bool} {m:Nat} (hb:∀j,j<m→p j=false):(List.range m).find? p=none:=by
 rw[List.find?_eq_none]
 intro j hj
 rw[hb j (List.mem_range.1 hj)]
 decide
theorem lrefute_c (n:Nat) (a:Option Addr) (m c:Nat) (cs:List Int) (w:World) (h:IC w a m cs) (S:Sq n cs) (h0:sqE 0 (n:Int) (n:Int) cs=0) :
  Calls Try.prog 6 #[.agg #[.int .i64 (n:Int),.int .i64 (n:Int),.slice a m c]] w fun e w'=>e = .returned (.tuple #[.int .i64 (refV n cs),.int .i64 (refEr n cs)])∧Below w.heap.size w w':=by
 have hn1:=S.n1
 have hn2:=S.n2
 have HK:=Lib.hid (fun W (hb:Below w.heap.size w W)=>latcheck_c (n:Int) (n:Int) a m c cs W (h.mono hb))
 rw[h0] at HK
 have HR:=Lib.hid (fun (d:Nat) W (hb:Below w.heap.size w W)=>lrefutes_c n a m c cs (d:Int) W (h.mono hb) S)
 clear h h0
 go_enter Try.func6,Try.ntmps6
 go_wp2_with fail
 have fB:Below w.heap.size w (w.alloc (.cells #[.int .i64 (n:Int),.int .i64 (n:Int),.slice a m c] 24)):=(Below.refl _ _).alloc (Nat.le_refl _) _
 have FQ:Hid ((w.alloc (.cells #[.int .i64 (n:Int),.int .i64 (n:Int),.slice a m c] 24)).heap[w.heap.size]?=some (.cells #[.int .i64 (n:Int),.int .i64 (n:Int),.slice a m c] 24 (0,0))):=World.alloc_heap_new _ _
 generalize (w.alloc (.cells #[.int .i64 (n:Int),.int .i64 (n:Int),.slice a m c] 24))=W0 at fB FQ ⊢
 obtain ⟨x0,x1,x2,xl⟩:=c3_of FQ.out
 go_wp2_with (first|(go_at_call 18;refine (HK.out _ fB).mono ?_;rintro _ w1 ⟨rfl,hb1⟩;clear x0 x1 x2 xl;obtain ⟨x0,x1,x2,xl⟩:=c3_of (keepq hb1 FQ.out)))
 have hB1:Hid (Below w.heap.size w w1):=keep_trans fB hb1
 have FQ1:=Lib.hid (keepq hb1 FQ.out)
 clear hb1 fB FQ
 go_loopw [5,14] (fun _ s wr=>∃k:Nat,k≤n+1∧s = .int .i64 k∧Hid (∀j:Nat,j<k→refuB n cs (j:Int)=false)∧Below w1.heap.size w1 wr) (fun _ s _=>n+1 - (intOf s).toNat)
 case atStart=>exact ⟨0,by omega,rfl,fun j hj=>absurd hj (by omega),Below.refl _ _⟩
 case round =>
  obtain ⟨k,hk,rfl,hr,hbr⟩:=hrel
  clear x0 x1 x2 xl
  obtain ⟨x0,x1,x2,xl⟩:=c3_of (keepq hbr FQ1.out)
  by_cases hlt:k<n+1
  ·have HRk:=Lib.hid (HR.out k)
   have HN:=Lib.hid (fun e=>upB_snoc (f:=fun j:Nat=>refuB n cs (j:Int)) hr.out e)
   have HF:=Lib.hid (fun e=>find_range (p:=fun j:Nat=>refuB n cs (j:Int)) hlt hr.out e)
   cases ht:refuB n cs (k:Int) with
   | true =>
    rw[ht] at HRk
    have HL:Hid (leastR n cs=some k):=HF.out ht
    clear ht
    go_wp2_with (first|(go_at_call 19;refine (HRk.out _ (keep_trans hB1.out hbr)).mono ?_;rintro _ w2 ⟨rfl,hb2⟩))
    go_ret2
    refine ⟨?_,keep_trans (keep_trans hB1.out hbr) hb2⟩
    unfold refV refEr
    rw[HL.out];rfl
   | false =>
    rw[ht] at HRk
    have HN2:=Lib.hid (HN.out ht)
    clear ht
    go_wp2_with (first|(go_at_call 19;refine (HRk.out _ (keep_trans hB1.out hbr)).mono ?_;rintro _ w2 ⟨rfl,hb2⟩))
    go_roundw
    case rel=>exact ⟨k+1,by omega,by go_num,HN2.out,keep_trans hbr hb2⟩
    case measure=>simp[intOf];omega
  ·have e:k=n+1:=by omega
   subst e
   have HL:Hid (leastR n cs=none):=find_none hr.out
   go_wp2_with fail
   go_ret2
   refine ⟨?_,keep_trans hB1.out hbr⟩
   unfold refV refEr
   rw[HL.out];rfl
theorem lcheckref_c (n:Nat) (a:Option Addr) (m c:Nat) (cs:List Int) (d:Int) (w:World) (h:IC w a m cs) (S:Sq n cs) (h0:sqE 0 (n:Int) (n:Int) cs=0) :
  Calls Try.prog 8 #[.agg #[.int .i64 (n:Int),.int .i64 (n:Int),.slice a m c],.int .i64 d] w fun e w'=>e = .returned (.int .i64 (whenV (!refuB n cs d) 19))∧Below w.heap.size w w':=by
 have HK:=Lib.hid (fun W (hb:Below w.heap.size w W)=>latcheck_c (n:Int) (n:Int) a m c cs W (h.mono hb))
 rw[h0] at HK
 have HR:=Lib.hid (fun W (hb:Below w.heap.size w W)=>lrefutes_c n a m c cs d W (h.mono hb) S)
 clear h h0
 generalize refuB n cs d=rb at HR ⊢
 have HW:=Lib.hid (fun W=>twhen_c (!rb) 19 W)
 go_enter Try.func8,Try.ntmps8
 go_wp2_with fail
 have fB:Below w.heap.size w (w.alloc (.cells #[.int .i64 (n:Int),.int .i64 (n:Int),.slice a m c] 24)):=(Below.refl _ _).alloc (Nat.le_refl _) _
 have FQ:Hid ((w.alloc (.cells #[.int .i64 (n:Int),.int .i64 (n:Int),.slice a m c] 24)).heap[w.heap.size]?=some (.cells #[.int .i64 (n:Int),.int .i64 (n:Int),.slice a m c] 24 (0,0))):=World.alloc_heap_new _ _
 generalize (w.alloc (.cells #[.int .i64 (n:Int),.int .i64 (n:Int),.slice a m c] 24))=W0 at fB FQ ⊢
 obtain ⟨x0,x1,x2,xl⟩:=c3_of FQ.out
 go_wp2_with (first|(go_at_call 18;refine (HK.out _ fB).mono ?_;rintro _ w1 ⟨rfl,hb1⟩;clear x0 x1 x2 xl;obtain ⟨x0,x1,x2,xl⟩:=c3_of (keepq hb1 FQ.out))|(go_at_call 19;refine (HR.out _ (keep_trans fB hb1)).mono ?_;rintro _ w2 ⟨rfl,hb2⟩)|(go_at_call 22;refine (HW.out _).mono ?_;rintro _ w3 ⟨rfl,rfl⟩))
 go_ret
 exact ⟨rfl,keep_trans (keep_trans fB hb1) hb2⟩
end
section
open Go Go.RowKit Go.Maps Go.WideMaps
theorem laidOut4:laidOutB Try.prog=true:=by kernel_rfl
theorem pairRow:(80:TypeId)<Try.prog.types.size:=of_decide_eq_true (by kernel_rfl)
theorem pairArr:ArrKey Try.prog 80 3 2:=⟨Try.underlying80,by kernel_rfl,by kernel_rfl,by kernel_rfl⟩
theorem pairWide:(match Try.prog.underlying 80 with|some (.array _ _)|some (.struct _)=>true|_=>false)=true:=by rw[Try.underlying80]
theorem pairKeyed:Keyed Try.prog 80:=Keyed.of_law (deep_law_laid laidOut4 (m:=2) (by omega) pairRow (by kernel_rfl) pairWide)
abbrev Pr:={p:Int × Int // (Lit.int .i64 p.1).wf=true∧(Lit.int .i64 p.2).wf=true}
def kapP (p:Pr):Lit := .string (keyBytes [.int .i64 p.1.1,.int .i64 p.1.2])
theorem keyP (p:Pr):keyOf Try.prog 80 (.agg #[.int .i64 p.1.1,.int .i64 p.1.2])=some (kapP p):=keyOf_pair pairArr Try.underlying3 ⟨_,rfl⟩ p.2.1 p.2.2
theorem injP (x y:Pr) (h:kapP x=kapP y):x=y:=by
 have h1:=keyP x
 have h2:=keyP y
 rw[h] at h1
 have:=pairKeyed.inj h1 h2
 simp only[Value.agg.injEq,Array.mk.injEq,List.cons.injEq,Value.int.injEq,and_true,true_and] at this
 exact Subtype.ext (Prod.ext this.1 this.2)
theorem wf64 {x:Int} (h0 : -1000000000000≤x) (h1:x≤1000000000000):(Lit.int .i64 x).wf=true:=by
 show (decide (IntKind.i64.min≤x)&&decide (x≤IntKind.i64.max))=true
 rw[Bool.and_eq_true,decide_eq_true_eq,decide_eq_true_eq]
 exact ⟨Int.le_trans (by decide) h0,Int.le_trans h1 (by decide)⟩
theorem zeroInt (w:World):(zeroValue 3).run Try.prog w = .ok (.int .i64 0) w:=by kernel_rfl
end
section
open Go Go.RowKit Go.Maps
attribute [local go_sem] over_cell
attribute [local go_sem] Oper.semAt_some
def seenP (cs ds:List Int) (k:Nat) (x y:Int):Option Int:=((List.range k).find? fun c=>cs[c]?.getD 0==x&&ds[c]?.getD 0==y).map fun c=>(c:Int)
theorem seenP_at (cs ds:List Int) (k:Nat):seenP cs ds k (cs[k]?.getD 0) (ds[k]?.getD 0)=(meetAt cs ds k).map fun c=>(c:Int):=by
 unfold seenP meetAt pairEq;rfl
theorem seenP_succ {cs ds:List Int} {k:Nat} (h:meetAt cs ds k=none) (x y:Int):seenP cs ds (k+1) x y=if x=cs[k]?.getD 0∧y=ds[k]?.getD 0 then some (k:Int) else seenP cs ds k x y:=by
 unfold seenP
 rw[List.range_succ,List.find?_append]
 by_cases e:x=cs[k]?.getD 0∧y=ds[k]?.getD 0
 ·rw[if_pos e,e.1,e.2]
  have h2:(List.range k).find? (fun c=>cs[c]?.getD 0==cs[k]?.getD 0&&ds[c]?.getD 0==ds[k]?.getD 0)=none:=h
  rw[h2]
  simp
 ·rw[if_neg e]
  cases hf:(List.range k).find? (fun c=>cs[c]?.getD 0==x&&ds[c]?.getD 0==y) with
  | some c=>rfl
  | none =>
   have:(cs[k]?.getD 0==x&&ds[k]?.getD 0==y)=false:=by
    rw[Bool.eq_false_iff]
    intro h3
    rw[Bool.and_eq_true,beq_iff_eq,beq_iff_eq] at h3
    exact e ⟨h3.1.symm,h3.2.symm⟩
   simp[this]
def MeetV (cs ds:List Int):Value:=match meetR cs ds with
 | some (c,d) => .tuple #[.int .i64 (c:Int),.int .i64 (d:Int),.bool true]
 | none => .tuple #[.int .i64 0,.int .i64 0,.bool false]
def NoMeet (cs ds:List Int) (k:Nat):Prop:=∀i,i<k→meetAt cs ds i=none
theorem noMeet_next {cs ds:List Int} {k:Nat} (h:NoMeet cs ds k) (h1:meetAt cs ds k=none):NoMeet cs ds (k+1):=fun i hi=>by
 rcases Nat.lt_or_ge i k with e|e
 ·exact h i e
 ·rw[show i=k by omega];exact h1
theorem noMeet_end {cs ds:List Int} (h:NoMeet cs ds cs.length):meetR cs ds=none:=by
 unfold meetR
 rw[List.findSome?_eq_none_iff]
 intro i hi
 rw[h i (List.mem_range.1 hi)];rfl
theorem meet_found {cs ds:List Int} {k c:Nat} (hk:k<cs.length) (h:NoMeet cs ds k) (h1:meetAt cs ds k=some c):meetR cs ds=some (c,k):=by
 unfold meetR
 exact findSome_first hk (fun i hi=>by rw[h i hi];rfl) (by rw[h1];rfl)
structure Num16 (cs:List Int):Prop where
 num:∀k:Nat,0≤cs[k]?.getD 0∧cs[k]?.getD 0≤1000
theorem Sq.num16 {n:Nat} {cs:List Int} (S:Sq n cs):Num16 cs:=⟨fun k=>by have:=S.num k;have:=S.n2;omega⟩
theorem meet_c (r1 C1 r2 C2:Int) (a:Option Addr) (n c:Nat) (cs:List Int) (a2:Option Addr) (n2 c2:Nat) (ds:List Int) (w:World) (h:IC w a n cs) (h2:IC w a2 n2 ds) (hn:n≤n2) (hn2:n≤65536) (N1:Num16 cs) (N2:Num16 ds) :
  Calls Try.prog 36 #[.agg #[.int .i64 r1,.int .i64 C1,.slice a n c],.agg #[.int .i64 r2,.int .i64 C2,.slice a2 n2 c2]] w fun e w'=>e = .returned (MeetV cs ds)∧Below w.heap.size w w':=by
 have hm:=h.small
 have HL:=Lib.hid h.len
 go_enter Try.func36,Try.ntmps36
 go_upto_region 1 with fail
 have fsz:((w.alloc (.cells #[.int .i64 r1,.int .i64 C1,.slice a n c] 24)).alloc (.cells #[.int .i64 r2,.int .i64 C2,.slice a2 n2 c2] 24)).heap.size=w.heap.size+2:=by simp only[World.size_alloc] <;> omega
 have fB:Below w.heap.size w ((w.alloc (.cells #[.int .i64 r1,.int .i64 C1,.slice a n c] 24)).alloc (.cells #[.int .i64 r2,.int .i64 C2,.slice a2 n2 c2] 24)):=((Below.refl _ _).alloc (Nat.le_refl _) _).alloc (by simp only[World.size_alloc];omega) _
 have fq0:((w.alloc (.cells #[.int .i64 r1,.int .i64 C1,.slice a n c] 24)).alloc (.cells #[.int .i64 r2,.int .i64 C2,.slice a2 n2 c2] 24)).heap[w.heap.size]?=some (.cells #[.int .i64 r1,.int .i64 C1,.slice a n c] 24 (0,0)):=by have h:=World.alloc_heap_new w (.cells #[.int .i64 r1,.int .i64 C1,.slice a n c] 24);exact (Below.heap_alloc _ _ _ (by simp only[World.size_alloc];omega)).trans (h)
 have fq1:((w.alloc (.cells #[.int .i64 r1,.int .i64 C1,.slice a n c] 24)).alloc (.cells #[.int .i64 r2,.int .i64 C2,.slice a2 n2 c2] 24)).heap[w.heap.size+1]?=some (.cells #[.int .i64 r2,.int .i64 C2,.slice a2 n2 c2] 24 (0,0)):=by have h:=World.alloc_heap_new (w.alloc (.cells #[.int .i64 r1,.int .i64 C1,.slice a n c] 24)) (.cells #[.int .i64 r2,.int .i64 C2,.slice a2 n2 c2] 24);simp only[World.size_alloc] at h;exact h
 generalize ((w.alloc (.cells #[.int .i64 r1,.int .i64 C1,.slice a n c] 24)).alloc (.cells #[.int .i64 r2,.int .i64 C2,.slice a2 n2 c2] 24))=W0 at fsz fB fq0 fq1 ⊢
 have h0:=Lib.hid (h.mono fB)
 have h02:=Lib.hid (h2.mono fB)
 clear h h2
 obtain ⟨x0,x1,x2,xl⟩:=c3_of fq0
 have Q0:=Lib.hid fq0
 have Q1:=Lib.hid fq1
 clear fq0 fq1 fsz
 have hmm:=@run_makeMap Try.prog
 go_upto_region 2 with fail
 clear hmm
 have hM1:MapI (W0.alloc (.map #[] 0)) Try.prog 80 3 kapP W0.heap.size 0 (fun p=>seenP cs ds 0 p.1.1 p.1.2):=MapI.made
 have hB1:Below W0.heap.size W0 (W0.alloc (.map #[] 0)):=(Below.refl _ _).alloc (Nat.le_refl _) _
 obtain ⟨x0,x1,x2,xl⟩:=c3_of (keepq hB1 Q0.out)
 generalize (W0.alloc (.map #[] 0))=W1 at hM1 hB1 x0 x1 x2 xl ⊢
 obtain ⟨mb,hmb⟩:∃mb,mb=W0.heap.size:=⟨_,rfl⟩
 have HMB:=Lib.hid hmb
 rw[← hmb] at hM1 ⊢
 clear hmb
 go_wp2_with fail
 go_loopw [8,9,10,11,12,17] (fun _ _ _ _ _ s wr=>∃k:Nat,k≤n∧s = .int .i64 k∧Hid (NoMeet cs ds k)∧Hid (MapI wr Try.prog 80 3 kapP mb k (fun p=>seenP cs ds k p.1.1 p.1.2))∧Below W0.heap.size W0 wr) (fun _ _ _ _ _ s _=>n - (intOf s).toNat)
 case atStart=>exact ⟨0,by omega,rfl,fun i hi=>absurd hi (by omega),hM1,hB1⟩
 case round =>
  obtain ⟨k,hk,rfl,hnm,hM,hbr⟩:=hrel
  clear x0 x1 x2 xl
  by_cases hlt:k<n
  ·obtain ⟨b,off,rfl,hb,hc⟩:=(h0.out.mono hbr).2 k hlt
   obtain ⟨bb,off2,rfl,hb2,hc2⟩:=(h02.out.mono hbr).2 k (by omega)
   have hki:(k:Int)<(n:Int):=by omega
   have hki2:(k:Int)<(n2:Int):=by omega
   have hx:=N1.num k
   have hy:=N2.num k
   have HAT:=Lib.hid (seenP_at cs ds k)
   have HSU:=Lib.hid (fun e=>seenP_succ (cs:=cs) (ds:=ds) (k:=k) e)
   obtain ⟨x,hxe⟩:∃x,x=cs[k]?.getD 0:=⟨_,rfl⟩
   obtain ⟨y,hye⟩:∃y,y=ds[k]?.getD 0:=⟨_,rfl⟩
   rw[← hxe] at hx hc
   rw[← hye] at hy hc2
   rw[← hxe,← hye] at HAT HSU
   clear hxe hye
   obtain ⟨p,hp⟩:∃p:Pr,p=⟨(x,y),wf64 (by omega) (by omega),wf64 (by omega) (by omega)⟩:=⟨_,rfl⟩
   have HKY:Hid (keyOf Try.prog 80 (.agg #[.int .i64 x,.int .i64 y])=some (kapP p)):=by unfold Hid;rw[hp];exact keyP ⟨(x,y),wf64 (by omega) (by omega),wf64 (by omega) (by omega)⟩
   have HPX:Hid (p.1.1=x∧p.1.2=y):=by rw[hp];exact ⟨rfl,rfl⟩
   have HPE:Hid (∀z:Pr,z=p↔z.1.1=x∧z.1.2=y):=fun z=>by
    rw[hp]
    exact ⟨fun e=>by rw[e];exact ⟨rfl,rfl⟩,fun e=>Subtype.ext (Prod.ext e.1 e.2)⟩
   clear hp
   have y0:wr.cell? ⟨w.heap.size+1,2,none⟩=some (.slice (some ⟨bb,off2,none⟩) n2 c2):=q_cell (keepq hbr Q1.out) 2
   have yl:=q_lt (keepq hbr Q1.out)
   have hFND:=Lib.hid (fun c e=>meet_found (cs:=cs) (ds:=ds) (k:=k) (c:=c) (by rw[HL.out];exact hlt) hnm.out e)
   have hNXT:=Lib.hid (fun e=>noMeet_next hnm.out e)
   have hmbr:mb<wr.heap.size:=hM.out.lt
   go_upto_region 6 with fail
   have hB5:Below wr.heap.size wr (wr.alloc (.cells #[.int .i64 x,.int .i64 y] 80)):=(Below.refl _ _).alloc (Nat.le_refl _) _
   have hq5:(wr.alloc (.cells #[.int .i64 x,.int .i64 y] 80)).heap[wr.heap.size]?=some (.cells #[.int .i64 x,.int .i64 y] 80 (0,0)):=World.alloc_heap_new _ _
   generalize (wr.alloc (.cells #[.int .i64 x,.int .i64 y] 80))=W5 at hB5 hq5 ⊢
   obtain ⟨g,hg⟩:∃g:Pr→Option Int,g=fun p=>seenP cs ds k p.1.1 p.1.2:=⟨_,rfl⟩
   have HM5:=Lib.hid (hM.out.mono hB5 hmbr)
   rw[← hg] at HM5
   have HGP:Hid (g p=(meetAt cs ds k).map fun c=>(c:Int)):=by unfold Hid;rw[hg];dsimp only;rw[HPX.out.1,HPX.out.2];exact HAT.out
   have HG:=Lib.hid hg
   clear hg y0 yl
   obtain ⟨z0,z1,zl⟩:W5.cell? ⟨wr.heap.size,0,none⟩=some (.int .i64 x)∧W5.cell? ⟨wr.heap.size,1,none⟩=some (.int .i64 y)∧wr.heap.size<W5.heap.size:=⟨q_cell hq5 0,q_cell hq5 1,q_lt hq5⟩
   clear hq5
   have hB05:=keep_trans hbr hB5
   cases hma:meetAt cs ds k with
   | some c9 =>
    rw[hma] at HGP
    have HE:Hid (MeetV cs ds = .tuple #[.int .i64 (c9:Int),.int .i64 (k:Int),.bool true]):=by unfold Hid MeetV;rw[hFND.out c9 hma]
    clear hma
    go_wp2_with (first|(refine wpList_lookI _ rfl _ _ 79 rfl 80 3 pairKeyed Try.underlying79 Try.underlying3 (zeroInt _) kapP mb k g rfl HM5.out _ p rfl HKY.out ?_;rw[HGP.out];dsimp only[Option.map,Option.getD,Option.isSome]))
    go_ret3
    exact ⟨by rw[HE.out];rfl,fB.trans (hB05.mono fB.size)⟩
   | none =>
    rw[hma] at HGP
    have HS2:=Lib.hid (HSU.out hma)
    have HN2:=Lib.hid (hNXT.out hma)
    clear hma
    go_wp2_with (first|(refine wpList_lookI _ rfl _ _ 79 rfl 80 3 pairKeyed Try.underlying79 Try.underlying3 (zeroInt _) kapP mb k g rfl HM5.out _ p rfl HKY.out ?_;rw[HGP.out];dsimp only[Option.map,Option.getD,Option.isSome])|(refine wpList_putI _ rfl _ _ _ 79 rfl 80 3 pairKeyed Try.underlying79 Try.underlying3 kapP injP mb k g rfl HM5.out (by unfold maxLen;omega) _ p (k:Int) rfl rfl HKY.out (wf64 (by omega) (by omega)) ?_;intro W6 hM6 hgr6))
    go_roundw
    case rel =>
     refine ⟨k+1,by omega,by go_num,HN2.out,?_,hB05.grown hgr6 hB05.size (fun j e=>by cases e;have:=HMB.out;omega)⟩
     have hgg:(fun z:Pr=>if z=p then some (k:Int) else g z)=fun z:Pr=>seenP cs ds (k+1) z.1.1 z.1.2:=by
      funext z
      rw[HS2.out,HG.out]
      by_cases e:z=p
      ·rw[if_pos e,if_pos ((HPE.out z).1 e)]
      ·rw[if_neg e,if_neg (fun e2=>e ((HPE.out z).2 e2))]
     rw[← hgg];exact hM6
    case measure=>simp[intOf];omega
  ·have e:k=n:=by omega
   subst e
   have HE:Hid (MeetV cs ds = .tuple #[.int .i64 0,.int .i64 0,.bool false]):=by unfold Hid MeetV;rw[noMeet_end (by rw[HL.out];exact hnm.out)]
   go_wp2_with fail
   go_ret3
   exact ⟨by rw[HE.out];rfl,fB.trans (hbr.mono fB.size)⟩
def twoE (r1 C1:Int) (cs:List Int) (r2 C2:Int) (ds:List Int):Int:=firstL [sqE 0 r1 C1 cs,sqE 0 r2 C2 ds,whenV (r1 != r2) 2]
theorem two_c (r1 C1 r2 C2:Int) (a:Option Addr) (n c:Nat) (cs:List Int) (a2:Option Addr) (n2 c2:Nat) (ds:List Int) (w:World) (h:IC w a n cs) (h2:IC w a2 n2 ds) :
  Calls Try.prog 35 #[.agg #[.int .i64 r1,.int .i64 C1,.slice a n c],.agg #[.int .i64 r2,.int .i64 C2,.slice a2 n2 c2]] w fun e w'=>e = .returned (.int .i64 (twoE r1 C1 cs r2 C2 ds))∧Below w.heap.size w w':=by
 have HC1:=Lib.hid (fun W (hb:Below w.heap.size w W)=>latcheck_c r1 C1 a n c cs W (h.mono hb))
 have HC2:=Lib.hid (fun W (hb:Below w.heap.size w W)=>latcheck_c r2 C2 a2 n2 c2 ds W (h2.mono hb))
 have HE:Hid (twoE r1 C1 cs r2 C2 ds=firstL [sqE 0 r1 C1 cs,sqE 0 r2 C2 ds,whenV (r1 != r2) 2]):=rfl
 clear h h2
 generalize sqE 0 r1 C1 cs=v1 at HC1 HE
 generalize sqE 0 r2 C2 ds=v2 at HC2 HE
 generalize twoE r1 C1 cs r2 C2 ds=er at HE ⊢
 go_enter Try.func35,Try.ntmps35
 go_upto_region 1 with fail
 have fsz:((w.alloc (.cells #[.int .i64 r1,.int .i64 C1,.slice a n c] 24)).alloc (.cells #[.int .i64 r2,.int .i64 C2,.slice a2 n2 c2] 24)).heap.size=w.heap.size+2:=by simp only[World.size_alloc] <;> omega
 have fB:Below w.heap.size w ((w.alloc (.cells #[.int .i64 r1,.int .i64 C1,.slice a n c] 24)).alloc (.cells #[.int .i64 r2,.int .i64 C2,.slice a2 n2 c2] 24)):=((Below.refl _ _).alloc (Nat.le_refl _) _).alloc (by simp only[World.size_alloc];omega) _
 have fq0:((w.alloc (.cells #[.int .i64 r1,.int .i64 C1,.slice a n c] 24)).alloc (.cells #[.int .i64 r2,.int .i64 C2,.slice a2 n2 c2] 24)).heap[w.heap.size]?=some (.cells #[.int .i64 r1,.int .i64 C1,.slice a n c] 24 (0,0)):=by have h:=World.alloc_heap_new w (.cells #[.int .i64 r1,.int .i64 C1,.slice a n c] 24);exact (Below.heap_alloc _ _ _ (by simp only[World.size_alloc];omega)).trans (h)
 have fq1:((w.alloc (.cells #[.int .i64 r1,.int .i64 C1,.slice a n c] 24)).alloc (.cells #[.int .i64 r2,.int .i64 C2,.slice a2 n2 c2] 24)).heap[w.heap.size+1]?=some (.cells #[.int .i64 r2,.int .i64 C2,.slice a2 n2 c2] 24 (0,0)):=by have h:=World.alloc_heap_new (w.alloc (.cells #[.int .i64 r1,.int .i64 C1,.slice a n c] 24)) (.cells #[.int .i64 r2,.int .i64 C2,.slice a2 n2 c2] 24);simp only[World.size_alloc] at h;exact h
 generalize ((w.alloc (.cells #[.int .i64 r1,.int .i64 C1,.slice a n c] 24)).alloc (.cells #[.int .i64 r2,.int .i64 C2,.slice a2 n2 c2] 24))=W0 at fsz fB fq0 fq1 ⊢
 obtain ⟨x0,x1,x2,xl⟩:=c3_of fq0
 obtain ⟨y0,y1,y2,yl⟩:=c3_of fq1
 clear fsz fq0 fq1
 refine wp_region_S (fun w'=>∃u,w'=over (W0) u) [12,11,10,9] [(0,0),(0,2),(0,4),(0,5),(0,6),(0,7),(0,8),(1,1),(1,3),(2,9),(2,10),(2,11),(2,12)] (by kernel_rfl) (by kernel_rfl) (by exact ⟨_,below_over (by repeat (first|assumption|exact Below.refl _ _|refine keep_drew ?_|refine keep_alloc ?_ _|refine keep_trans ?_ (by assumption)))⟩) ?_
 dsimp only[pickOps,nthOp]
 repeat (first|(refine wpS_skip rfl (fun K hK=>?_);go_big_quiet_op;refine hK _ ?_;clear hK K)|(refine wpS_quiet rfl rfl (fun K hK=>?_);go_big_quiet_op;refine hK _ ?_;clear hK K)|(refine wpS_loud ?_;go_wp2_with (first|(go_at_call 18;refine (HC1.out _ (keep_trans fB (keep_drew (Below.refl _ _)))).mono ?_;rintro _ w1 ⟨rfl,hb1⟩)|(go_at_call 18;refine (HC2.out _ (keep_trans fB (keep_trans (keep_drew (Below.refl _ _)) hb1))).mono ?_;rintro _ w2 ⟨rfl,hb2⟩)|(go_at_call 22;refine (twhen_c _ _ _).mono ?_;rintro _ w3 ⟨rfl,rfl⟩)|(go_at_call 20;refine (tfirst_c _ _ _ _ _ (IC.new3 _ _ _ _ _)).mono ?_;rintro _ w4 ⟨rfl,rfl⟩));refine ⟨?_,?_⟩;focus (exact ⟨_,below_over (by repeat (first|assumption|exact Below.refl _ _|refine keep_drew ?_|refine keep_alloc ?_ _|refine keep_trans ?_ (by assumption)))⟩)))
 refine wpS_late _ _ _ rfl ?_
 dsimp only[List.map]
 go_wp2_with (first|(go_at_call 18;refine (HC1.out _ (keep_trans fB (keep_drew (Below.refl _ _)))).mono ?_;rintro _ w1 ⟨rfl,hb1⟩)|(go_at_call 18;refine (HC2.out _ (keep_trans fB (keep_trans (keep_drew (Below.refl _ _)) hb1))).mono ?_;rintro _ w2 ⟨rfl,hb2⟩)|(go_at_call 22;refine (twhen_c _ _ _).mono ?_;rintro _ w3 ⟨rfl,rfl⟩)|(go_at_call 20;refine (tfirst_c _ _ _ _ _ (IC.new3 _ _ _ _ _)).mono ?_;rintro _ w4 ⟨rfl,rfl⟩))
 refine NoPanic.normal ?_
 go_wp2_with fail
 go_ret
 exact ⟨ret_int HE.out.symm,keep_alloc (keep_trans (keep_trans fB (keep_trans (keep_drew (Below.refl _ _)) hb1)) hb2) _⟩
def orthV (r1 C1:Int) (cs:List Int) (r2 C2:Int) (ds:List Int):Value :=
 if twoE r1 C1 cs r2 C2 ds=0 then .tuple #[.bool (meetR cs ds).isNone,.int .i64 0] else .tuple #[.bool false,.int .i64 (twoE r1 C1 cs r2 C2 ds)]
theorem firstL_cons0 {x:Int} {l:List Int} (h:firstL (x :: l)=0):x=0∧firstL l=0:=by
 unfold firstL at h
 split at h
 ·rename_i hx
  exact ⟨h,by first|(exact absurd h (by simpa using hx))|(simp_all)⟩
 ·rename_i hx
  exact ⟨by simpa using hx,h⟩
theorem twoE_ok {r1 C1 r2 C2:Int} {cs ds:List Int} (h:twoE r1 C1 cs r2 C2 ds=0):∃n:Nat,r1=(n:Int)∧C1=(n:Int)∧r2=(n:Int)∧C2=(n:Int)∧Latin n cs∧Latin n ds:=by
 unfold twoE at h
 obtain ⟨h1,h⟩:=firstL_cons0 h
 obtain ⟨h2,h⟩:=firstL_cons0 h
 obtain ⟨h3,_⟩:=firstL_cons0 h
 obtain ⟨n,rfl,rfl,L⟩:=sqE_ok h1
 obtain ⟨m,rfl,rfl,M⟩:=sqE_ok h2
 unfold whenV at h3
 split at h3
 ·exact absurd h3 (by decide)
 ·rename_i hx
  have e:(n:Int)=(m:Int):=by simpa using hx
  have e2:n=m:=Int.ofNat.inj e
  subst e2
  exact ⟨n,rfl,rfl,rfl,rfl,L,M⟩
theorem orth_c (r1 C1 r2 C2:Int) (a:Option Addr) (n c:Nat) (cs:List Int) (a2:Option Addr) (n2 c2:Nat) (ds:List Int) (w:World) (h:IC w a n cs) (h2:IC w a2 n2 ds) :
  Calls Try.prog 10 #[.agg #[.int .i64 r1,.int .i64 C1,.slice a n c],.agg #[.int .i64 r2,.int .i64 C2,.slice a2 n2 c2]] w fun e w'=>e = .returned (orthV r1 C1 cs r2 C2 ds)∧Below w.heap.size w w':=by
 have HT:=Lib.hid (fun W (hb:Below w.heap.size w W)=>two_c r1 C1 r2 C2 a n c cs a2 n2 c2 ds W (h.mono hb) (h2.mono hb))
 by_cases h0:twoE r1 C1 cs r2 C2 ds=0
 ·obtain ⟨N,rfl,rfl,rfl,rfl,L,M⟩:=twoE_ok h0
  have HE:Hid (orthV (N:Int) (N:Int) cs (N:Int) (N:Int) ds = .tuple #[.bool (meetR cs ds).isNone,.int .i64 0]):=by unfold Hid orthV;rw[if_pos h0]
  rw[h0] at HT
  have hle:n=N*N:=by rw[← h.len,L.len]
  have hle2:n2=N*N:=by rw[← h2.len,M.len]
  have hn:n≤65536:=by rw[hle];exact Nat.le_trans (Nat.mul_le_mul L.le L.le) (by decide)
  have HM:=Lib.hid (fun W (hb:Below w.heap.size w W)=>meet_c (N:Int) (N:Int) (N:Int) (N:Int) a n c cs a2 n2 c2 ds W (h.mono hb) (h2.mono hb) (by rw[hle,hle2];exact Nat.le_refl _) hn L.sq.num16 M.sq.num16)
  unfold MeetV at HM
  clear h h2 h0 hle hle2 hn
  cases hmr:meetR cs ds with
  | none =>
   rw[hmr] at HM HE
   clear hmr
   go_enter Try.func10,Try.ntmps10
   go_wp2_with fail
   have fsz:((w.alloc (.cells #[.int .i64 (N:Int),.int .i64 (N:Int),.slice a n c] 24)).alloc (.cells #[.int .i64 (N:Int),.int .i64 (N:Int),.slice a2 n2 c2] 24)).heap.size=w.heap.size+2:=by simp only[World.size_alloc] <;> omega
   have fB:Below w.heap.size w ((w.alloc (.cells #[.int .i64 (N:Int),.int .i64 (N:Int),.slice a n c] 24)).alloc (.cells #[.int .i64 (N:Int),.int .i64 (N:Int),.slice a2 n2 c2] 24)):=((Below.refl _ _).alloc (Nat.le_refl _) _).alloc (by simp only[World.size_alloc];omega) _
   have fq0:((w.alloc (.cells #[.int .i64 (N:Int),.int .i64 (N:Int),.slice a n c] 24)).alloc (.cells #[.int .i64 (N:Int),.int .i64 (N:Int),.slice a2 n2 c2] 24)).heap[w.heap.size]?=some (.cells #[.int .i64 (N:Int),.int .i64 (N:Int),.slice a n c] 24 (0,0)):=by have h:=World.alloc_heap_new w (.cells #[.int .i64 (N:Int),.int .i64 (N:Int),.slice a n c] 24);exact (Below.heap_alloc _ _ _ (by simp only[World.size_alloc];omega)).trans (h)
   have fq1:((w.alloc (.cells #[.int .i64 (N:Int),.int .i64 (N:Int),.slice a n c] 24)).alloc (.cells #[.int .i64 (N:Int),.int .i64 (N:Int),.slice a2 n2 c2] 24)).heap[w.heap.size+1]?=some (.cells #[.int .i64 (N:Int),.int .i64 (N:Int),.slice a2 n2 c2] 24 (0,0)):=by have h:=World.alloc_heap_new (w.alloc (.cells #[.int .i64 (N:Int),.int .i64 (N:Int),.slice a n c] 24)) (.cells #[.int .i64 (N:Int),.int .i64 (N:Int),.slice a2 n2 c2] 24);simp only[World.size_alloc] at h;exact h
   generalize ((w.alloc (.cells #[.int .i64 (N:Int),.int .i64 (N:Int),.slice a n c] 24)).alloc (.cells #[.int .i64 (N:Int),.int .i64 (N:Int),.slice a2 n2 c2] 24))=W0 at fsz fB fq0 fq1 ⊢
   obtain ⟨x0,x1,x2,xl⟩:=c3_of fq0
   obtain ⟨y0,y1,y2,yl⟩:=c3_of fq1
   have Q0:=Lib.hid fq0
   have Q1:=Lib.hid fq1
   clear fsz fq0 fq1
   go_wp2_with (first|(go_at_call 35;refine (HT.out _ fB).mono ?_;rintro _ w1 ⟨rfl,hb1⟩;clear x0 x1 x2 xl y0 y1 y2 yl;obtain ⟨x0,x1,x2,xl⟩:=c3_of (keepq hb1 Q0.out);obtain ⟨y0,y1,y2,yl⟩:=c3_of (keepq hb1 Q1.out))|(go_at_call 36;refine (HM.out _ (keep_trans fB hb1)).mono ?_;rintro _ w2 ⟨rfl,hb2⟩)|(go_at_call 22;refine (twhen_c _ _ _).mono ?_;rintro _ w3 ⟨rfl,rfl⟩))
   go_ret2
   exact ⟨by rw[HE.out];rfl,keep_trans (keep_trans fB hb1) hb2⟩
  | some cd =>
   obtain ⟨c9,d9⟩:=cd
   rw[hmr] at HM HE
   clear hmr
   go_enter Try.func10,Try.ntmps10
   go_wp2_with fail
   have fsz:((w.alloc (.cells #[.int .i64 (N:Int),.int .i64 (N:Int),.slice a n c] 24)).alloc (.cells #[.int .i64 (N:Int),.int .i64 (N:Int),.slice a2 n2 c2] 24)).heap.size=w.heap.size+2:=by simp only[World.size_alloc] <;> omega
   have fB:Below w.heap.size w ((w.alloc (.cells #[.int .i64 (N:Int),.int .i64 (N:Int),.slice a n c] 24)).alloc (.cells #[.int .i64 (N:Int),.int .i64 (N:Int),.slice a2 n2 c2] 24)):=((Below.refl _ _).alloc (Nat.le_refl _) _).alloc (by simp only[World.size_alloc];omega) _
   have fq0:((w.alloc (.cells #[.int .i64 (N:Int),.int .i64 (N:Int),.slice a n c] 24)).alloc (.cells #[.int .i64 (N:Int),.int .i64 (N:Int),.slice a2 n2 c2] 24)).heap[w.heap.size]?=some (.cells #[.int .i64 (N:Int),.int .i64 (N:Int),.slice a n c] 24 (0,0)):=by have h:=World.alloc_heap_new w (.cells #[.int .i64 (N:Int),.int .i64 (N:Int),.slice a n c] 24);exact (Below.heap_alloc _ _ _ (by simp only[World.size_alloc];omega)).trans (h)
   have fq1:((w.alloc (.cells #[.int .i64 (N:Int),.int .i64 (N:Int),.slice a n c] 24)).alloc (.cells #[.int .i64 (N:Int),.int .i64 (N:Int),.slice a2 n2 c2] 24)).heap[w.heap.size+1]?=some (.cells #[.int .i64 (N:Int),.int .i64 (N:Int),.slice a2 n2 c2] 24 (0,0)):=by have h:=World.alloc_heap_new (w.alloc (.cells #[.int .i64 (N:Int),.int .i64 (N:Int),.slice a n c] 24)) (.cells #[.int .i64 (N:Int),.int .i64 (N:Int),.slice a2 n2 c2] 24);simp only[World.size_alloc] at h;exact h
   generalize ((w.alloc (.cells #[.int .i64 (N:Int),.int .i64 (N:Int),.slice a n c] 24)).alloc (.cells #[.int .i64 (N:Int),.int .i64 (N:Int),.slice a2 n2 c2] 24))=W0 at fsz fB fq0 fq1 ⊢
   obtain ⟨x0,x1,x2,xl⟩:=c3_of fq0
   obtain ⟨y0,y1,y2,yl⟩:=c3_of fq1
   have Q0:=Lib.hid fq0
   have Q1:=Lib.hid fq1
   clear fsz fq0 fq1
   go_wp2_with (first|(go_at_call 35;refine (HT.out _ fB).mono ?_;rintro _ w1 ⟨rfl,hb1⟩;clear x0 x1 x2 xl y0 y1 y2 yl;obtain ⟨x0,x1,x2,xl⟩:=c3_of (keepq hb1 Q0.out);obtain ⟨y0,y1,y2,yl⟩:=c3_of (keepq hb1 Q1.out))|(go_at_call 36;refine (HM.out _ (keep_trans fB hb1)).mono ?_;rintro _ w2 ⟨rfl,hb2⟩)|(go_at_call 22;refine (twhen_c _ _ _).mono ?_;rintro _ w3 ⟨rfl,rfl⟩))
   go_ret2
   exact ⟨by rw[HE.out];rfl,keep_trans (keep_trans fB hb1) hb2⟩
 ·have HE:Hid (orthV r1 C1 cs r2 C2 ds = .tuple #[.bool false,.int .i64 (twoE r1 C1 cs r2 C2 ds)]):=by unfold Hid orthV;rw[if_neg h0]
  have h0':(twoE r1 C1 cs r2 C2 ds != 0)=true:=by simpa using h0
  generalize twoE r1 C1 cs r2 C2 ds=er at HT h0' HE
  clear h h2 h0
  go_enter Try.func10,Try.ntmps10
  go_wp2_with fail
  have fsz:((w.alloc (.cells #[.int .i64 r1,.int .i64 C1,.slice a n c] 24)).alloc (.cells #[.int .i64 r2,.int .i64 C2,.slice a2 n2 c2] 24)).heap.size=w.heap.size+2:=by simp only[World.size_alloc] <;> omega
  have fB:Below w.heap.size w ((w.alloc (.cells #[.int .i64 r1,.int .i64 C1,.slice a n c] 24)).alloc (.cells #[.int .i64 r2,.int .i64 C2,.slice a2 n2 c2] 24)):=((Below.refl _ _).alloc (Nat.le_refl _) _).alloc (by simp only[World.size_alloc];omega) _
  have fq0:((w.alloc (.cells #[.int .i64 r1,.int .i64 C1,.slice a n c] 24)).alloc (.cells #[.int .i64 r2,.int .i64 C2,.slice a2 n2 c2] 24)).heap[w.heap.size]?=some (.cells #[.int .i64 r1,.int .i64 C1,.slice a n c] 24 (0,0)):=by have h:=World.alloc_heap_new w (.cells #[.int .i64 r1,.int .i64 C1,.slice a n c] 24);exact (Below.heap_alloc _ _ _ (by simp only[World.size_alloc];omega)).trans (h)
  have fq1:((w.alloc (.cells #[.int .i64 r1,.int .i64 C1,.slice a n c] 24)).alloc (.cells #[.int .i64 r2,.int .i64 C2,.slice a2 n2 c2] 24)).heap[w.heap.size+1]?=some (.cells #[.int .i64 r2,.int .i64 C2,.slice a2 n2 c2] 24 (0,0)):=by have h:=World.alloc_heap_new (w.alloc (.cells #[.int .i64 r1,.int .i64 C1,.slice a n c] 24)) (.cells #[.int .i64 r2,.int .i64 C2,.slice a2 n2 c2] 24);simp only[World.size_alloc] at h;exact h
  generalize ((w.alloc (.cells #[.int .i64 r1,.int .i64 C1,.slice a n c] 24)).alloc (.cells #[.int .i64 r2,.int .i64 C2,.slice a2 n2 c2] 24))=W0 at fsz fB fq0 fq1 ⊢
  obtain ⟨x0,x1,x2,xl⟩:=c3_of fq0
  obtain ⟨y0,y1,y2,yl⟩:=c3_of fq1
  clear fsz fq0 fq1
  go_wp2_with (first|(go_at_call 35;refine (HT.out _ fB).mono ?_;rintro _ w1 ⟨rfl,hb1⟩))
  go_ret2
  exact ⟨by rw[HE.out];rfl,keep_trans fB hb1⟩
end
end Go.Proofs.Ytceombamoikhdaa
