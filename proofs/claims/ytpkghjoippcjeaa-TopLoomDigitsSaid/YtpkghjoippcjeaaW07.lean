/- Texts J39 to J41 of this proof, in one file. -/
import Derived.Test.YtpkghjoippcjeaaW02
import Derived.Test.YtpkghjoippcjeaaW06
namespace Go.Proofs.Ytpkghjoippcjeaa
set_option maxRecDepth 100000
set_option maxHeartbeats 16000000
section
open Go Go.RowKit
attribute [local go_sem] over_cell
attribute [local go_sem] Oper.semAt_some
theorem uwhen_c (h:Bool) (e:Int) (w:World):Calls Try.prog 21 #[.bool h,.int .i64 e] w fun r w'=>r = .returned (.int .i64 (whenV h e))∧w=w':=by
 cases h
 ·go_enter Try.func21,Try.ntmps21
  go_wp2
  go_ret
  exact ⟨rfl,rfl⟩
 ·go_enter Try.func21,Try.ntmps21
  go_wp2
  go_ret
  exact ⟨rfl,rfl⟩
theorem ufirst_c (a:Option Addr) (n c:Nat) (xs:List Int) (w:World) (h:IC w a n xs) :
  Calls Try.prog 33 #[.slice a n c] w fun e w'=>e = .returned (.int .i64 (firstL xs))∧w=w':=by
 have hm:=h.small
 go_enter Try.func33,Try.ntmps33
 go_wp2
 go_loop [4,7] (fun _ i=>∃k:Nat,k≤n∧i = .int .i64 k∧Hid (∀j,j<k→xs[j]?.getD 0=0)) (fun _ i=>n - (intOf i).toNat)
 case atStart=>exact ⟨0,by omega,rfl,fun j hj=>absurd hj (by omega)⟩
 case round =>
  obtain ⟨k,hk,rfl,hn⟩:=hrel
  by_cases hlt:k<n
  ·obtain ⟨b,off,rfl,hb,hc⟩:=h.2 k hlt
   go_wp2
   ·have he:(xs[k]?.getD 0 != 0)=true:=by assumption
    go_ret
    exact ⟨ret_int (firstL_hit hn.out (by rw[h.len];exact hlt) (by simpa using he)).symm,rfl⟩
   ·have he:(xs[k]?.getD 0 != 0)=false:=by assumption
    go_round
    case rel=>exact ⟨k+1,by omega,by go_num,upI_snoc (f:=fun j=>xs[j]?.getD 0) hn.out (by simpa using he)⟩
    case measure=>simp[intOf];omega
  ·have e:k=n:=by omega
   subst e
   go_wp2
   go_ret
   exact ⟨ret_int (firstL_none (by rw[h.len];exact hn.out)).symm,rfl⟩
theorem uorder_c (n:Nat) (h1:1≤n) (h2:n≤16) (w:World):Calls Try.prog 39 #[.int .i64 (n:Int)] w fun e w'=>e = .returned (.int .i64 0)∧w=w':=by
 have hd1:decide ((n:Int)<1)=false:=decide_eq_false (by omega)
 have hd2:decide ((16:Int)<(n:Int))=false:=decide_eq_false (by omega)
 go_enter Try.func39,Try.ntmps39
 go_wp2_with (first|(go_at_call 21;refine (uwhen_c _ _ _).mono ?_;rintro _ w3 ⟨rfl,rfl⟩))
 go_ret
 exact ⟨rfl,rfl⟩
def shpE (r C:Int) (cs:List Int):Int:=whenV (!sqB r C cs) 2
theorem shpE_ok {n:Nat} {cs:List Int} (h1:1≤n) (h2:n≤16) (hl:cs.length=n*n):shpE (n:Int) (n:Int) cs=0:=by
 have:sqB (n:Int) (n:Int) cs=true:=by
  unfold sqB
  rw[hl,← Int.natCast_mul]
  simp only[Bool.and_eq_true,decide_eq_true_eq]
  exact ⟨⟨⟨trivial,by omega⟩,by omega⟩,trivial⟩
 unfold shpE
 rw[this];rfl
theorem usq_c (r C:Int) (a:Option Addr) (n c:Nat) (cs:List Int) (w:World) (h:IC w a n cs) :
  Calls Try.prog 43 #[.agg #[.int .i64 r,.int .i64 C,.slice a n c]] w fun e w'=>e = .returned (.int .i64 (shpE r C cs))∧Below w.heap.size w w':=by
 have hm:=h.small
 have hlen:=h.len
 clear h
 by_cases hrc:r=C
 ·subst hrc
  have hq:(r != r)=false:=by simp
  by_cases h1:1≤r
  ·have hd1:decide (r<1)=false:=decide_eq_false (by omega)
   by_cases h2:r≤16
   ·have hd2:decide (16<r)=false:=decide_eq_false (by omega)
    obtain ⟨N,rfl⟩:=Int.eq_ofNat_of_zero_le (show 0≤r by omega)
    have HE:Hid (shpE (N:Int) (N:Int) cs=whenV ((n:Int) != wrap64 ((N:Int)*(N:Int))) 2):=by
     unfold Hid shpE
     congr 1
     unfold sqB
     rw[sq_wrap (by omega),hlen,← Int.natCast_mul,show decide ((N:Int)≤16)=true from decide_eq_true h2,show decide ((1:Int)≤(N:Int))=true from decide_eq_true h1,decide_eq_true rfl,Bool.true_and,Bool.true_and,Bool.true_and,Bool.eq_iff_iff,Bool.not_eq_true',decide_eq_false_iff_not,bne_iff_ne]
    clear hlen
    go_enter Try.func43,Try.ntmps43
    go_wp2_with fail
    have fB:Below w.heap.size w (w.alloc (.cells #[.int .i64 (N:Int),.int .i64 (N:Int),.slice a n c] 31)):=(Below.refl _ _).alloc (Nat.le_refl _) _
    have FQ:Hid ((w.alloc (.cells #[.int .i64 (N:Int),.int .i64 (N:Int),.slice a n c] 31)).heap[w.heap.size]?=some (.cells #[.int .i64 (N:Int),.int .i64 (N:Int),.slice a n c] 31 (0,0))):=World.alloc_heap_new _ _
    generalize (w.alloc (.cells #[.int .i64 (N:Int),.int .i64 (N:Int),.slice a n c] 31))=W0 at fB FQ ⊢
    obtain ⟨x0,x1,x2,xl⟩:=c3_of FQ.out
    go_wp2_with (first|(go_at_call 21;refine (uwhen_c _ _ _).mono ?_;rintro _ w3 ⟨rfl,rfl⟩))
    go_ret
    exact ⟨ret_int HE.out.symm,fB⟩
   ·have hd2:decide (16<r)=true:=decide_eq_true (by omega)
    have HE:Hid (shpE r r cs=whenV true 2):=by
     unfold Hid shpE sqB
     rw[decide_eq_false h2];simp
    clear hlen
    go_enter Try.func43,Try.ntmps43
    go_wp2_with fail
    have fB:Below w.heap.size w (w.alloc (.cells #[.int .i64 r,.int .i64 r,.slice a n c] 31)):=(Below.refl _ _).alloc (Nat.le_refl _) _
    have FQ:Hid ((w.alloc (.cells #[.int .i64 r,.int .i64 r,.slice a n c] 31)).heap[w.heap.size]?=some (.cells #[.int .i64 r,.int .i64 r,.slice a n c] 31 (0,0))):=World.alloc_heap_new _ _
    generalize (w.alloc (.cells #[.int .i64 r,.int .i64 r,.slice a n c] 31))=W0 at fB FQ ⊢
    obtain ⟨x0,x1,x2,xl⟩:=c3_of FQ.out
    go_wp2_with (first|(go_at_call 21;refine (uwhen_c _ _ _).mono ?_;rintro _ w3 ⟨rfl,rfl⟩))
    go_ret
    exact ⟨ret_int HE.out.symm,fB⟩
  ·have hd1:decide (r<1)=true:=decide_eq_true (by omega)
   have HE:Hid (shpE r r cs=whenV true 2):=by
    unfold Hid shpE sqB
    rw[decide_eq_false h1];simp
   clear hlen
   go_enter Try.func43,Try.ntmps43
   go_wp2_with fail
   have fB:Below w.heap.size w (w.alloc (.cells #[.int .i64 r,.int .i64 r,.slice a n c] 31)):=(Below.refl _ _).alloc (Nat.le_refl _) _
   have FQ:Hid ((w.alloc (.cells #[.int .i64 r,.int .i64 r,.slice a n c] 31)).heap[w.heap.size]?=some (.cells #[.int .i64 r,.int .i64 r,.slice a n c] 31 (0,0))):=World.alloc_heap_new _ _
   generalize (w.alloc (.cells #[.int .i64 r,.int .i64 r,.slice a n c] 31))=W0 at fB FQ ⊢
   obtain ⟨x0,x1,x2,xl⟩:=c3_of FQ.out
   go_wp2_with (first|(go_at_call 21;refine (uwhen_c _ _ _).mono ?_;rintro _ w3 ⟨rfl,rfl⟩))
   go_ret
   exact ⟨ret_int HE.out.symm,fB⟩
 ·have hq:(r != C)=true:=by simpa using hrc
  have HE:Hid (shpE r C cs=whenV true 2):=by
   unfold Hid shpE sqB
   rw[decide_eq_false hrc];simp
  clear hlen
  go_enter Try.func43,Try.ntmps43
  go_wp2_with fail
  have fB:Below w.heap.size w (w.alloc (.cells #[.int .i64 r,.int .i64 C,.slice a n c] 31)):=(Below.refl _ _).alloc (Nat.le_refl _) _
  have FQ:Hid ((w.alloc (.cells #[.int .i64 r,.int .i64 C,.slice a n c] 31)).heap[w.heap.size]?=some (.cells #[.int .i64 r,.int .i64 C,.slice a n c] 31 (0,0))):=World.alloc_heap_new _ _
  generalize (w.alloc (.cells #[.int .i64 r,.int .i64 C,.slice a n c] 31))=W0 at fB FQ ⊢
  obtain ⟨x0,x1,x2,xl⟩:=c3_of FQ.out
  go_wp2_with (first|(go_at_call 21;refine (uwhen_c _ _ _).mono ?_;rintro _ w3 ⟨rfl,rfl⟩))
  go_ret
  exact ⟨ret_int HE.out.symm,fB⟩
theorem enterUd:∀args w,Sem.run Try.prog (callFunc 70 args) w = .ok (.enter 70 args) w:=by
 intro args w;kernel_rfl
theorem udig1_c (x r:Int) (u1 u2:Value) (b:Nat) (w:World) (hq:w.heap[b]?=some (.cells #[.int .i64 r,u1,u2] 31 (0,0))) :
  Calls Try.prog 70 #[.int .i64 x,.pointer (some ⟨b,0,none⟩)] w fun e w'=>e = .returned (.bool (decide (x<0)||decide (r≤x)))∧Below w.heap.size w w':=by
 obtain ⟨x0,x1,x2,xl⟩:=c3_of hq
 clear hq
 by_cases h:x<0
 ·have hd:decide (x<0)=true:=decide_eq_true h
  go_enter Try.func70,Try.ntmps70
  go_wp2
  go_ret
  exact ⟨ret_bool (by first|rfl|(rw[hd];rfl)|simp[hd]),Below.refl _ _⟩
 ·have hd:decide (x<0)=false:=decide_eq_false h
  go_enter Try.func70,Try.ntmps70
  go_wp2
  go_ret
  exact ⟨ret_bool (by first|rfl|(rw[hd];rfl)|simp[hd]),Below.refl _ _⟩
theorem udigits_c (n:Nat) (a:Option Addr) (m c:Nat) (cs:List Int) (w:World) (h:IC w a m cs) (S:Sq n cs) :
  Calls Try.prog 34 #[.agg #[.int .i64 (n:Int),.int .i64 (n:Int),.slice a m c]] w fun e w'=>e = .returned (.int .i64 0)∧Below w.heap.size w w':=by
 have HE:=shpE_ok S.n1 S.n2 S.len
 have HQ:=Lib.hid (fun W (hb:Below w.heap.size w W)=>usq_c (n:Int) (n:Int) a m c cs W (h.mono hb))
 rw[HE] at HQ
 have HC:Hid (∀W,Below w.heap.size w W→∀b u1 u2,W.heap[b]?=some (.cells #[.int .i64 (n:Int),u1,u2] 31 (0,0))→Calls Try.prog 69 #[.slice a m c,.func (.func 70) #[] #[.pointer (some ⟨b,0,none⟩)]] W fun e w'=>e = .returned (.bool false)∧Below W.heap.size W w'):=by
  intro W hb b u1 u2 hq
  refine (containsFuncI_c a m c cs 70 #[.pointer (some ⟨b,0,none⟩)] (fun k=>decide (cs[k]?.getD 0<0)||decide ((n:Int)≤cs[k]?.getD 0)) W (h.mono hb) enterUd (fun k _ w' hb'=>udig1_c _ _ u1 u2 b w' (keepq hb' hq))).mono ?_
  rintro e w' ⟨rfl,hb'⟩
  refine ⟨ret_bool ?_,hb'⟩
  unfold anyP
  rw[Bool.eq_false_iff]
  intro e
  obtain ⟨k,_,hk⟩:=List.any_eq_true.1 e
  have:=S.num k
  rw[Bool.or_eq_true,decide_eq_true_eq,decide_eq_true_eq] at hk
  omega
 clear h HE
 go_enter Try.func34,Try.ntmps34
 go_wp2_with fail
 have fB:Below w.heap.size w (w.alloc (.cells #[.int .i64 (n:Int),.int .i64 (n:Int),.slice a m c] 31)):=(Below.refl _ _).alloc (Nat.le_refl _) _
 have FQ:Hid ((w.alloc (.cells #[.int .i64 (n:Int),.int .i64 (n:Int),.slice a m c] 31)).heap[w.heap.size]?=some (.cells #[.int .i64 (n:Int),.int .i64 (n:Int),.slice a m c] 31 (0,0))):=World.alloc_heap_new _ _
 generalize (w.alloc (.cells #[.int .i64 (n:Int),.int .i64 (n:Int),.slice a m c] 31))=W0 at fB FQ ⊢
 obtain ⟨x0,x1,x2,xl⟩:=c3_of FQ.out
 go_wp2_with (first|(go_at_call 43;refine (HQ.out _ fB).mono ?_;rintro _ w1 ⟨rfl,hb1⟩;clear x0 x1 x2 xl;have q1:=keepq hb1 FQ.out;obtain ⟨x0,x1,x2,xl⟩:=c3_of q1)|(go_at_call 69;refine (HC.out _ (keep_trans fB hb1) _ _ _ q1).mono ?_;rintro _ w2 ⟨rfl,hb2⟩)|(go_at_call 21;refine (uwhen_c _ _ _).mono ?_;rintro _ w3 ⟨rfl,rfl⟩))
 go_ret
 exact ⟨rfl,keep_trans (keep_trans fB hb1) hb2⟩
end
section
open Go Go.RowKit
attribute [local go_sem] over_cell
attribute [local go_sem] Oper.semAt_some
def badN (cs:List Int) (k:Nat):Bool:=decide (cs[k]?.getD 0<1)||(decide ((cs.length:Int)<cs[k]?.getD 0)||hasB (cs.take k) (cs[k]?.getD 0))
def norB (cs:List Int):Bool:=(List.range cs.length).all fun k=>!badN cs k
def norE (r C:Int) (cs:List Int):Int:=if sqB r C cs=true then whenV (!norB cs) 1 else 2
theorem norB_miss {cs:List Int} {k:Nat} (hk:k<cs.length) (h:badN cs k=true):norB cs=false:=by
 unfold norB
 rw[List.all_eq_false]
 exact ⟨k,List.mem_range.2 hk,by rw[h];simp⟩
theorem norB_end {cs:List Int} (h:∀k,k<cs.length→badN cs k=false):norB cs=true:=by
 unfold norB
 rw[List.all_eq_true]
 intro k hk
 rw[h k (List.mem_range.1 hk)];rfl
def NorI (w:World) (b g n:Nat) (r C:Int) (a:Option Addr) (c:Nat) (xs:List Value) (W:World):Prop :=
 W.heap[b]?=some (.cells #[.int .i64 r,.int .i64 C,.slice a n c] 31 (0,0))∧W.ownsRow g 4 1 (.slice (some ⟨g,0,none⟩) (n+1) (n+1)) (n+1) xs∧Below w.heap.size w W
theorem unormal_c (r C:Int) (a:Option Addr) (n c:Nat) (cs:List Int) (w:World) (h:IC w a n cs) :
  Calls Try.prog 22 #[.agg #[.int .i64 r,.int .i64 C,.slice a n c]] w fun e w'=>e = .returned (.int .i64 (norE r C cs))∧Below w.heap.size w w':=by
 obtain ⟨i0,hi,hz0,hz1,hz2⟩:=info_parts infoBool1
 have HQ:=Lib.hid (fun W (hb:Below w.heap.size w W)=>usq_c r C a n c cs W (h.mono hb))
 have hlen:=h.len
 by_cases hs:sqB r C cs=true
 ·have HE:Hid (norE r C cs=whenV (!norB cs) 1):=if_pos hs
  have h0:shpE r C cs=0:=by unfold shpE;rw[hs];rfl
  rw[h0] at HQ
  have hnb:n≤256:=by
   obtain ⟨N,_,_,_,h2,h3⟩:=sqB_dims hs
   rw[← hlen,h3]
   exact Nat.mul_le_mul h2 h2
  have HE1:Hid (∀k,k<n→badN cs k=true→norE r C cs=1):=fun k hk e=>by rw[HE.out,norB_miss (by omega) e];rfl
  have HE0:Hid ((∀k,k<n→badN cs k=false)→norE r C cs=0):=fun e=>by rw[HE.out,norB_end (fun k hk=>e k (by omega))];rfl
  have H:=Lib.hid h
  have HL:=Lib.hid hlen
  have HBD:Hid (∀k,badN cs k=(decide (cs[k]?.getD 0<1)||(decide ((n:Int)<cs[k]?.getD 0)||hasB (cs.take k) (cs[k]?.getD 0)))):=fun k=>by unfold badN;rw[hlen]
  have HSS:Hid (∀k q:Nat,k<n→cs[k]?.getD 0=(q:Int)→(seenL (n+1) cs k).set q (.bool true)=seenL (n+1) cs (k+1)):=fun k q hk e=>seen_set (by omega) e
  clear h hlen h0 hs HE
  generalize norE r C cs=er at HE1 HE0 ⊢
  go_enter Try.func22,Try.ntmps22
  go_wp2_with fail
  have fB:Below w.heap.size w (w.alloc (.cells #[.int .i64 r,.int .i64 C,.slice a n c] 31)):=(Below.refl _ _).alloc (Nat.le_refl _) _
  have FQ:Hid ((w.alloc (.cells #[.int .i64 r,.int .i64 C,.slice a n c] 31)).heap[w.heap.size]?=some (.cells #[.int .i64 r,.int .i64 C,.slice a n c] 31 (0,0))):=World.alloc_heap_new _ _
  generalize (w.alloc (.cells #[.int .i64 r,.int .i64 C,.slice a n c] 31))=W0 at fB FQ ⊢
  obtain ⟨x0,x1,x2,xl⟩:=c3_of FQ.out
  go_wp2_with (first|(go_at_call 43;refine (HQ.out _ fB).mono ?_;rintro _ w1 ⟨rfl,hb1⟩;clear x0 x1 x2 xl;have q1:=keepq hb1 FQ.out;obtain ⟨x0,x1,x2,xl⟩:=c3_of q1)|(refine wpList_make_full _ rfl _ _ 82 rfl w1.heap.size 4 i0 (.bool false) 1 Try.underlying82 hi hz0 hz1 _ _ _ _ (n+1) rfl rfl (by simp) (by simp) (by rw[hz2];omega) (by unfold maxLen;omega) (Nat.le_refl _) ?_;intro W4 hown4 hgr4;have hb4:Below w1.heap.size w1 W4:=(Below.refl w1.heap.size w1).grown hgr4 (Nat.le_refl _) (fun k e=>by cases e);clear x0 x1 x2 xl;have q4:=keepq hb4 q1;obtain ⟨x0,x1,x2,xl⟩:=c3_of q4))
  rw[seen_zero (n+1) cs] at hown4
  have Q4:=Lib.hid q4
  have hB4:Hid (Below w.heap.size w W4):=keep_trans (keep_trans fB hb1) hb4
  have hW4:Hid (Below w.heap.size w W4∧W4.heap.size>w.heap.size):=⟨hB4.out,xl⟩
  have hLW:Hid (w.heap.size<w1.heap.size):=q_lt q1
  obtain ⟨g,hg⟩:∃g,g=w1.heap.size:=⟨_,rfl⟩
  rw[← hg] at hown4 hLW ⊢
  have HST:Hid (NorI w w.heap.size g n r C a c (seenL (n+1) cs 0) W4):=⟨q4,hown4,hB4.out⟩
  clear hg q4 hown4 hgr4 hb4 hb1 q1 HQ x0 x1 x2 xl FQ fB
  go_loopw [6,20] (fun _ iv wr=>∃k:Nat,k≤n∧iv = .int .i64 k∧Hid (NorI w w.heap.size g n r C a c (seenL (n+1) cs k) wr)∧Hid (∀j,j<k→badN cs j=false)) (fun _ iv _=>n - (intOf iv).toNat)
  case atStart=>exact ⟨0,by omega,rfl,HST,fun j hj=>absurd hj (by omega)⟩
  case round =>
   obtain ⟨k,hk,rfl,hI,hno⟩:=hrel
   clear HST hB4 hW4 Q4
   obtain ⟨p0,hown,hbr⟩:=hI.out
   clear hI
   obtain ⟨x0,x1,x2,xl⟩:=c3_of p0
   by_cases hlt:k<n
   ·have hki:(k:Int)<(n:Int):=by omega
    obtain ⟨b5,o5,rfl,hb5,hc5⟩:=(H.out.mono hbr).2 k hlt
    have HX:=Lib.hid (HBD.out k)
    have HE1k:=Lib.hid (HE1.out k hlt)
    have HSK:=Lib.hid (fun q=>HSS.out k q hlt)
    have HNK:Hid (badN cs k=false→∀j,j<k+1→badN cs j=false):=fun e j hj=>by
     rcases Nat.lt_or_ge j k with h|h
     ·exact hno.out j h
     ·rw[show j=k by omega];exact e
    generalize badN cs k=bd at HX HE1k HNK
    generalize cs[k]?.getD 0=x at hc5 HX HSK
    have P0:=Lib.hid p0
    clear p0
    by_cases hx0:x<1
    ·have hd:decide (x<1)=true:=decide_eq_true hx0
     rw[hd,Bool.true_or] at HX
     clear hown
     go_wp2
     go_ret
     exact ⟨ret_int (HE1k.out HX.out).symm,hbr⟩
    ·have hd:decide (x<1)=false:=decide_eq_false hx0
     rw[hd,Bool.false_or] at HX
     by_cases hxn:(n:Int)<x
     ·have hd2:decide ((n:Int)<x)=true:=decide_eq_true hxn
      rw[hd2,Bool.true_or] at HX
      clear hown
      go_wp2
      go_ret
      exact ⟨ret_int (HE1k.out HX.out).symm,hbr⟩
     ·have hd2:decide ((n:Int)<x)=false:=decide_eq_false hxn
      rw[hd2,Bool.false_or] at HX
      obtain ⟨q,rfl⟩:=Int.eq_ofNat_of_zero_le (show 0≤x by omega)
      have hqn:q<n+1:=by omega
      have hqi:(q:Int)<(n:Int)+1:=by omega
      have hqi0:(0:Int)≤(q:Int):=by omega
      obtain ⟨g9,c9,x9,e9,hx9,hcell9,hfr9,hlt9,hn9⟩:=owns_free (owns_base hown (Nat.zero_le _)) q hqn
      simp only[Value.slice.injEq,Option.some.injEq,Addr.mk.injEq,true_and,and_true] at e9
      obtain ⟨e9,hcap9⟩:=e9
      subst e9
      clear hcap9
      obtain rfl:=seen_at hx9
      generalize hasB (cs.take k) (q:Int)=hb at HX hcell9
      cases hb with
      | true =>
       clear hx9 hfr9 hown
       go_wp2
       go_ret
       exact ⟨ret_int (HE1k.out HX.out).symm,hbr⟩
      | false =>
       have HSO:=Lib.hid (owns_set hown q (.bool true))
       rw[HSK.out q rfl] at HSO
       have hgw:=hLW.out
       have HSB:Hid (NorI w w.heap.size g n r C (some ⟨b5,o5,none⟩) c (seenL (n+1) cs (k+1)) (wr.setCell ⟨g,q,none⟩ (.bool true))):=⟨q_other (i:=q) P0.out (by omega) _,HSO.out,hbr.setCell (p:=⟨g,q,none⟩) (by show w.heap.size≤g;omega) _⟩
       clear hx9 hown
       go_wp2
       go_roundw
       case rel=>exact ⟨k+1,by omega,by go_num,HSB.out,HNK.out HX.out⟩
       case measure=>simp[intOf];omega
   ·have e:k=n:=by omega
    subst e
    have HF:=Lib.hid (HE0.out hno.out)
    clear hown
    go_wp2
    go_ret
    exact ⟨ret_int HF.out.symm,hbr⟩
 ·have HE:Hid (norE r C cs=2):=if_neg hs
  have h0:shpE r C cs=2:=by unfold shpE;rw[Bool.eq_false_iff.2 hs];rfl
  rw[h0] at HQ
  clear h hlen h0 hs
  go_enter Try.func22,Try.ntmps22
  go_wp2_with fail
  have fB:Below w.heap.size w (w.alloc (.cells #[.int .i64 r,.int .i64 C,.slice a n c] 31)):=(Below.refl _ _).alloc (Nat.le_refl _) _
  have FQ:Hid ((w.alloc (.cells #[.int .i64 r,.int .i64 C,.slice a n c] 31)).heap[w.heap.size]?=some (.cells #[.int .i64 r,.int .i64 C,.slice a n c] 31 (0,0))):=World.alloc_heap_new _ _
  generalize (w.alloc (.cells #[.int .i64 r,.int .i64 C,.slice a n c] 31))=W0 at fB FQ ⊢
  obtain ⟨x0,x1,x2,xl⟩:=c3_of FQ.out
  go_wp2_with (first|(go_at_call 43;refine (HQ.out _ fB).mono ?_;rintro _ w1 ⟨rfl,hb1⟩))
  go_ret
  exact ⟨ret_int HE.out.symm,keep_trans fB hb1⟩
end
section
open Go Go.RowKit
attribute [local go_sem] over_cell
attribute [local go_sem] Oper.semAt_some
theorem made_zer (n:Nat):(madeCells (Value.int .i64 0).cells (n*1)).toList=(List.replicate n (0:Int)).map (Value.int .i64):=by
 apply List.ext_getElem?
 intro i
 by_cases h:i<n
 ·simp[madeCells,h,Value.cells,Nat.mod_one]
 ·simp[madeCells,h]
def fullTo (N:Nat) (s:Nat→Nat→Int) (m k:Nat):List Int:=madeTo N s k++List.replicate (m - k) 0
theorem fullTo_zero (N:Nat) (s:Nat→Nat→Int) (m:Nat):fullTo N s m 0=List.replicate m 0:=by simp[fullTo,madeTo]
theorem fullTo_end (N:Nat) (s:Nat→Nat→Int) (m:Nat):fullTo N s m m=madeTo N s m:=by simp[fullTo]
theorem fullTo_set {N:Nat} {s:Nat→Nat→Int} {m i j:Nat} (hj:j<N) (h:i*N+j<m):(fullTo N s m (i*N+j)).set (i*N+j) (s i j)=fullTo N s m (i*N+j+1):=by
 unfold fullTo
 rw[madeTo_succ N s hj,List.set_append_right _ _ (by rw[madeTo_len];exact Nat.le_refl _),madeTo_len,Nat.sub_self,List.append_assoc]
 congr 1
 rw[show m - (i*N+j)=(m - (i*N+j+1))+1 by omega,List.replicate_succ,List.set_cons_zero];rfl
theorem uempty_c (n m:Nat) (hm:m=n*n) (hn:n≤16) (w:World):Calls Try.prog 41 #[.int .i64 (n:Int)] w fun e w'=>∃g,e = .returned (.agg #[.int .i64 (n:Int),.int .i64 (n:Int),.slice (some ⟨g,0,none⟩) m m])∧w'.ownsRow w.heap.size 3 1 (.slice (some ⟨g,0,none⟩) m m) m ((List.replicate m (0:Int)).map (Value.int .i64))∧Below w.heap.size w w':=by
 obtain ⟨i0,hi,hz0,hz1,hz2⟩:=info_parts infoInt
 have hmb:m≤256:=by rw[hm];exact Nat.mul_le_mul hn hn
 have hmul:wrap64 ((n:Int)*(n:Int))=(m:Int):=wrapmul hm (by omega)
 have HMU:=Lib.hid hmul
 clear hm hmul
 go_enter Try.func41,Try.ntmps41
 go_upto_region 1 with fail
 have fsz:(w.alloc (.cells #[.int .i64 0,.int .i64 0,.slice none 0 0] 31)).heap.size=w.heap.size+1:=by simp only[World.size_alloc]
 have fB:Below w.heap.size w (w.alloc (.cells #[.int .i64 0,.int .i64 0,.slice none 0 0] 31)):=(Below.refl _ _).alloc (Nat.le_refl _) _
 have fq0:(w.alloc (.cells #[.int .i64 0,.int .i64 0,.slice none 0 0] 31)).heap[w.heap.size]?=some (.cells #[.int .i64 0,.int .i64 0,.slice none 0 0] 31 (0,0)):=by have h:=World.alloc_heap_new w (.cells #[.int .i64 0,.int .i64 0,.slice none 0 0] 31);exact h
 generalize (w.alloc (.cells #[.int .i64 0,.int .i64 0,.slice none 0 0] 31))=W0 at fsz fB fq0 ⊢
 have Q0:=Lib.hid fq0
 have hl:=q_lt fq0
 clear fsz fq0
 go_wp2_with (refine wpList_make_full _ rfl _ _ 29 rfl W0.heap.size 3 i0 (.int .i64 0) 1 Try.underlying29 hi hz0 hz1 _ _ _ _ m rfl rfl (by first|exact HMU.out|exact hmul) (by first|exact HMU.out|exact hmul) (by rw[hz2];omega) (by unfold maxLen;omega) (Nat.le_refl _) ?_;intro W4 hown4 hgr4;have hb4:Below W0.heap.size W0 W4:=(Below.refl W0.heap.size W0).grown hgr4 (Nat.le_refl _) (fun k e=>by cases e);have q4:=keepq hb4 Q0.out;obtain ⟨x0,x1,x2,xl⟩:=c3_of q4;obtain ⟨xf0,xf1,xf2⟩:=f3_of q4)
 rw[made_zer m] at hown4
 have g3:=st3_q (x0 := .int .i64 (n:Int)) (x1 := .int .i64 (n:Int)) (x2 := .slice (some ⟨W0.heap.size,0,none⟩) m m) q4
 have hown3:=st3_own (x0 := .int .i64 (n:Int)) (x1 := .int .i64 (n:Int)) (x2 := .slice (some ⟨W0.heap.size,0,none⟩) m m) hown4 (b:=w.heap.size) (fun e=>absurd (hown4.lt _ e).1 (by omega))
 have hb3:=st3_below (x0 := .int .i64 (n:Int)) (x1 := .int .i64 (n:Int)) (x2 := .slice (some ⟨W0.heap.size,0,none⟩) m m) (b:=w.heap.size) (keep_trans fB hb4) (Nat.le_refl _)
 obtain ⟨z0,z1,z2,zl⟩:=c3_of g3
 refine bodyPost_ret (v := .agg #[.int .i64 (n:Int),.int .i64 (n:Int),.slice (some ⟨W0.heap.size,0,none⟩) m m]) ?_ rfl ⟨_,rfl,owns_base hown3 fB.size,hb3⟩
 simp[results,Try.f41,go_sem,z0,z1,z2]
def UmI (w:World) (b b9 g m:Nat) (n:Int) (xs:List Int) (W:World):Prop :=
 W.heap[b]?=some (.cells #[.int .i64 0,.int .i64 0,.slice none 0 0] 31 (0,0)) ∧
  W.heap[b9]?=some (.cells #[.int .i64 n,.int .i64 n,.slice (some ⟨g,0,none⟩) m m] 31 (0,0))∧W.ownsRow (b+1) 3 1 (.slice (some ⟨g,0,none⟩) m m) m (xs.map (Value.int .i64))∧Below w.heap.size w W∧b<g∧g<b9
theorem UmI.set {w:World} {b b9 g m:Nat} {n:Int} {xs:List Int} {W:World} (h:UmI w b b9 g m n xs W) (hb:w.heap.size≤b) (i:Nat) (x:Int):UmI w b b9 g m n (xs.set i x) (W.setCell ⟨g,i,none⟩ (.int .i64 x)):=by
 obtain ⟨h1,h2,h3,h4,h5,h6⟩:=h
 refine ⟨q_other h1 (by omega) _,q_other h2 (by omega) _,?_,h4.setCell (p:=⟨g,i,none⟩) (by show w.heap.size≤g;omega) _,h5,h6⟩
 rw[List.map_set]
 exact owns_set h3 i _
theorem UmI.cell {w:World} {b b9 g m:Nat} {n:Int} {xs:List Int} {W:World} (h:UmI w b b9 g m n xs W) {i:Nat} (hi:i<m):W.cell? ⟨g,i,none⟩=some (.int .i64 (xs[i]?.getD 0))∧W.frozen? ⟨g,i,none⟩=false∧g<W.heap.size:=by
 obtain ⟨g2,cap,x,hv,hx,hc,hf,hl,_⟩:=owns_free h.2.2.1 i hi
 simp only[Value.slice.injEq,Option.some.injEq,Addr.mk.injEq,and_true,true_and] at hv
 obtain ⟨rfl,_⟩:=hv
 rw[List.getElem?_map] at hx
 cases hxs:xs[i]? with
 | none=>rw[hxs] at hx;cases hx
 | some y=>rw[hxs] at hx;cases hx;exact ⟨hc,hf,hl⟩
theorem UmI.below {w:World} {b b9 g m:Nat} {n:Int} {xs:List Int} {W W':World} (h:UmI w b b9 g m n xs W) (hb:Below W.heap.size W W'):UmI w b b9 g m n xs W':=by
 obtain ⟨h1,h2,h3,h4,h5,h6⟩:=h
 exact ⟨keepq hb h1,keepq hb h2,owns_keep h3 (fun k _ hl=>hb.block k hl),keep_trans h4 hb,h5,h6⟩
theorem umade_c (N:Nat) (hN:N≤16) (fk:Nat) (fst caps:Array Value) (s:Nat→Nat→Int) (cs:List Int) (w:World) (hcs:cs=madeTo N s (N*N))
  (hcf:∀args w,Sem.run Try.prog (callFunc fk args) w = .ok (.enter fk args) w)
  (hs:∀i j:Nat,i<N→j<N→∀W,Below w.heap.size w W→Calls Try.prog fk (fst++(#[.int .i64 (i:Int),.int .i64 (j:Int)]++caps)) W (fun e w'=>e = .returned (.int .i64 (s i j))∧Below W.heap.size W w')) :
  Calls Try.prog 23 #[.int .i64 (N:Int),.func (.func fk) fst caps] w (GridM w (N:Int) (N:Int) cs):=by
 have HS:=Lib.hid hs
 clear hs
 have hN2:N*N≤16*16:=Nat.mul_le_mul hN hN
 obtain ⟨q,hq⟩:∃q,q=N*N:=⟨_,rfl⟩
 have HQ:=Lib.hid hq
 have HE:=Lib.hid (fun W=>uempty_c N q hq hN W)
 rw[← hq] at hN2 hcs
 clear hq
 have HCS:=Lib.hid hcs
 clear hcs
 go_enter Try.func23,Try.ntmps23
 go_upto_region 1 with fail
 have fsz:(w.alloc (.cells #[.int .i64 0,.int .i64 0,.slice none 0 0] 31)).heap.size=w.heap.size+1:=by simp only[World.size_alloc]
 have fB:Below w.heap.size w (w.alloc (.cells #[.int .i64 0,.int .i64 0,.slice none 0 0] 31)):=(Below.refl _ _).alloc (Nat.le_refl _) _
 have fq0:(w.alloc (.cells #[.int .i64 0,.int .i64 0,.slice none 0 0] 31)).heap[w.heap.size]?=some (.cells #[.int .i64 0,.int .i64 0,.slice none 0 0] 31 (0,0)):=by have h:=World.alloc_heap_new w (.cells #[.int .i64 0,.int .i64 0,.slice none 0 0] 31);exact h
 generalize (w.alloc (.cells #[.int .i64 0,.int .i64 0,.slice none 0 0] 31))=W0 at fsz fB fq0 ⊢
 have Q0:=Lib.hid fq0
 have hl:=q_lt fq0
 clear fsz fq0
 go_upto_region 2 with (first|(go_at_call 41;refine (HE.out _).mono ?_;rintro _ w2 ⟨g,rfl,hown2,hb2⟩))
 have hB3:Below w2.heap.size w2 (w2.alloc (.cells #[.int .i64 (N:Int),.int .i64 (N:Int),.slice (some ⟨g,0,none⟩) q q] 31)):=(Below.refl _ _).alloc (Nat.le_refl _) _
 have q9:(w2.alloc (.cells #[.int .i64 (N:Int),.int .i64 (N:Int),.slice (some ⟨g,0,none⟩) q q] 31)).heap[w2.heap.size]?=some (.cells #[.int .i64 (N:Int),.int .i64 (N:Int),.slice (some ⟨g,0,none⟩) q q] 31 (0,0)):=World.alloc_heap_new _ _
 have hgb:∀k,(Value.slice (some ⟨g,0,none⟩) q q).ownBlock=some k→W0.heap.size≤k∧k<w2.heap.size:=fun k e=>hown2.lt k e
 have hg1:W0.heap.size≤g∧g<w2.heap.size:=hgb g rfl
 have hown3:=owns_base (owns_keep hown2 (fun k _ hl=>hB3.block k hl)) (show w.heap.size+1≤W0.heap.size by omega)
 have p0:=keepq hB3 (keepq hb2 Q0.out)
 have hBw:Below w.heap.size w (w2.alloc (.cells #[.int .i64 (N:Int),.int .i64 (N:Int),.slice (some ⟨g,0,none⟩) q q] 31)):=keep_trans (keep_trans fB hb2) hB3
 generalize (w2.alloc (.cells #[.int .i64 (N:Int),.int .i64 (N:Int),.slice (some ⟨g,0,none⟩) q q] 31))=W3 at q9 hown3 p0 hBw ⊢
 obtain ⟨b9,hb9⟩:∃b9,b9=w2.heap.size:=⟨_,rfl⟩
 rw[← hb9] at q9 hg1 ⊢
 have HST:Hid (UmI w w.heap.size b9 g q (N:Int) (fullTo N s q 0) W3):=⟨p0,q9,by rw[fullTo_zero];exact hown3,hBw,by omega,hg1.2⟩
 clear hB3 hb9 hb2 hown2 hgb hown3 p0 hBw q9 fB Q0 hg1 hl
 go_wp2_with fail
 go_loopw [6,7,11,15] (fun _ _ s12 _ wr=>∃i:Nat,i≤N∧s12 = .int .i64 i∧Hid (UmI w w.heap.size b9 g q (N:Int) (fullTo N s q (i*N)) wr)) (fun _ _ s12 _ _=>N - (intOf s12).toNat)
 case atStart=>exact ⟨0,by omega,rfl,by rw[Nat.zero_mul];exact HST⟩
 case round =>
  obtain ⟨i,hi1,rfl,hm⟩:=hrel
  clear HST
  by_cases hlt:i<N
  ·go_wp2_with fail
   go_loopw [7,15] (fun _ s16 wr=>∃j:Nat,j≤N∧s16 = .int .i64 j∧Hid (UmI w w.heap.size b9 g q (N:Int) (fullTo N s q (i*N+j)) wr)) (fun _ s16 _=>N - (intOf s16).toNat)
   case atStart=>exact ⟨0,by omega,rfl,hm⟩
   case round =>
    obtain ⟨j,hj1,rfl,hm2⟩:=hrel
    clear hm
    by_cases hlt2:j<N
    ·have hp:i*N+j<q:=by rw[HQ.out];exact gcell_lt hlt hlt2
     obtain ⟨p,hpe⟩:∃p,p=i*N:=⟨_,rfl⟩
     have HSET:=Lib.hid (fullTo_set (s:=s) (m:=q) (i:=i) hlt2 hp)
     rw[← hpe] at hm2 hp HSET
     have hmul:wrap64 ((N:Int)*(i:Int))=(p:Int):=wrapmul (by rw[hpe,Nat.mul_comm]) (by omega)
     obtain ⟨e,he⟩:∃e,e=p+j:=⟨_,rfl⟩
     have hadd:wrap64 ((p:Int)+(j:Int))=(e:Int):=wrapadd he (by clear hmul;omega)
     rw[← he] at hm2 hp HSET
     have HC:=Lib.hid (HS.out i j hlt hlt2)
     have h4:(e:Int)<(q:Int):=Int.ofNat_lt.2 hp
     obtain ⟨x0,x1,x2,xl⟩:=c3_of hm2.out.2.1
     have HB:=Lib.hid hm2.out.2.2.2.1
     have hlow:w.heap.size<wr.heap.size:=by have:=hm2.out.2.2.2.2;omega
     have HEQ:Hid (e+1=i*N+(j+1)):=by show e+1=i*N+(j+1);rw[he,hpe,Nat.add_assoc]
     clear he hpe
     go_wp2_with fail
     refine wp_region_S (fun w'=>∃u,w'=over (wr) u) [12] [(0,0),(0,1),(0,2),(0,3),(0,4),(0,5),(0,6),(0,7),(0,8),(0,9),(1,10),(0,11),(2,12)] (by kernel_rfl) (by kernel_rfl) (by exact ⟨_,below_over (by repeat (first|assumption|exact Below.refl _ _|refine keep_drew ?_|refine keep_alloc ?_ _|refine keep_trans ?_ (by assumption)))⟩) ?_
     dsimp only[pickOps,nthOp]
     repeat (first|(refine wpS_skip rfl (fun K hK=>?_);go_big_quiet_op;refine hK _ ?_;clear hK K)|(refine wpS_quiet rfl rfl (fun K hK=>?_);go_big_quiet_op;refine hK _ ?_;clear hK K)|(refine wpS_loud ?_;go_wp2_with ((refine (HC.out _ (keep_trans HB.out (keep_drew (Below.refl _ _)))).mono ?_;rintro _ w1 ⟨rfl,hb1⟩;have hm3:Hid (UmI w w.heap.size b9 g q (N:Int) (fullTo N s q e) w1):=hm2.out.below (by first|exact hb1|exact keep_trans (keep_drew (Below.refl _ _)) hb1);obtain ⟨cg1,cg2,cg3⟩:=hm3.out.cell hp));refine ⟨?_,?_⟩;focus (exact ⟨_,below_over (by repeat (first|assumption|exact Below.refl _ _|refine keep_drew ?_|refine keep_alloc ?_ _|refine keep_trans ?_ (by assumption)))⟩)))
     refine wpS_late _ _ _ rfl ?_
     dsimp only[List.map]
     go_wp2_with ((refine (HC.out _ (keep_trans HB.out (keep_drew (Below.refl _ _)))).mono ?_;rintro _ w1 ⟨rfl,hb1⟩;have hm3:Hid (UmI w w.heap.size b9 g q (N:Int) (fullTo N s q e) w1):=hm2.out.below (by first|exact hb1|exact keep_trans (keep_drew (Below.refl _ _)) hb1);obtain ⟨cg1,cg2,cg3⟩:=hm3.out.cell hp))
     refine NoPanic.normal ?_
     have HN:=Lib.hid (hm3.out.set (Nat.le_refl _) e (s i j))
     rw[HSET.out,HEQ.out] at HN
     clear x0 x1 x2 xl cg1 cg2 cg3 hm3 hm2
     generalize (w1.setCell ⟨g,e,none⟩ (.int .i64 (s i j)))=W8 at HN ⊢
     go_wp2_with fail
     go_roundw
     case rel=>exact ⟨j+1,by omega,by go_num,HN⟩
     case measure=>simp[intOf];omega
    ·have e:j=N:=by omega
     subst e
     go_wp2
     go_roundw
     case rel=>exact ⟨i+1,by omega,by go_num,by rw[Nat.add_mul,Nat.one_mul];exact hm2⟩
     case measure=>simp[intOf];omega
  ·have e:i=N:=by omega
   subst e
   rw[← HQ.out,fullTo_end,← HCS.out] at hm
   obtain ⟨p0,p9,hown,hb,h5,h6⟩:=hm.out
   obtain ⟨c0,c1,c2,cl⟩:=c3_of p9
   obtain ⟨d0,d1,d2,dl⟩:=c3_of p0
   obtain ⟨d0f,d1f,d2f⟩:=f3_of p0
   have P0:=Lib.hid p0
   have HO:=Lib.hid hown
   clear p0 p9 hown
   go_wp2_with fail
   have g3:=st3_q (x0 := .int .i64 (i:Int)) (x1 := .int .i64 (i:Int)) (x2 := .slice (some ⟨g,0,none⟩) q q) P0.out
   have hown3:=st3_own (x0 := .int .i64 (i:Int)) (x1 := .int .i64 (i:Int)) (x2 := .slice (some ⟨g,0,none⟩) q q) HO.out (b:=w.heap.size) (fun e=>by have h1:=(HO.out.lt _ e).1;omega)
   have hb3:=st3_below (x0 := .int .i64 (i:Int)) (x1 := .int .i64 (i:Int)) (x2 := .slice (some ⟨g,0,none⟩) q q) (b:=w.heap.size) hb (Nat.le_refl _)
   obtain ⟨z0,z1,z2,zl⟩:=c3_of g3
   have hlen:cs.length=q:=by rw[HCS.out,madeTo_len]
   refine bodyPost_ret (v := .agg #[.int .i64 (i:Int),.int .i64 (i:Int),.slice (some ⟨g,0,none⟩) q q]) ?_ rfl ⟨_,_,by rw[hlen],by rw[hlen];exact owns_base hown3 (by omega),hb3⟩
   simp[results,Try.f23,go_sem,z0,z1,z2]
end
end Go.Proofs.Ytpkghjoippcjeaa
