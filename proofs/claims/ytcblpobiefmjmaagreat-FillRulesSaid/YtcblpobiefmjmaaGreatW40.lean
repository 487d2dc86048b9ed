/- Texts Z1 to Z4 of this proof, in one file. -/
import Derived.Test.YtcblpobiefmjmaaGreatW12
import Derived.Test.YtcblpobiefmjmaaGreatW14
import Derived.Test.YtcblpobiefmjmaaGreatW15
import Derived.Test.YtcblpobiefmjmaaGreatW27
namespace Go.Proofs.YtcblpobiefmjmaaGreat
set_option maxRecDepth 100000
set_option maxHeartbeats 16000000
section
open Go Go.RowKit
theorem mOnce {Ms:List Nat} {i:Nat}:∀k,k≤Ms.length→((onceTo Ms k).testBit i=true↔∃j,j<k∧(Ms[j]?.getD 0).testBit i=true)
 | 0,_=>by simp[onceTo]
 | k+1,h=>by
  rw[onceTo_succ (by omega),Nat.testBit_or,Bool.or_eq_true,mOnce k (by omega)]
  constructor
  ·rintro (⟨j,h1,h2⟩|h1)
   ·exact ⟨j,by omega,h2⟩
   ·exact ⟨k,by omega,h1⟩
  ·rintro ⟨j,h1,h2⟩
   by_cases e:j=k
   ·subst e;exact .inr h2
   ·exact .inl ⟨j,by omega,h2⟩
theorem mTwice {Ms:List Nat} {i:Nat}:∀k,k≤Ms.length→((twiceTo Ms k).testBit i=true↔∃a b,a<b∧b<k∧(Ms[a]?.getD 0).testBit i=true∧(Ms[b]?.getD 0).testBit i=true)
 | 0,_=>by simp[twiceTo]
 | k+1,h=>by
  simp only[twiceTo]
  rw[Nat.testBit_or,Nat.testBit_and,Bool.or_eq_true,Bool.and_eq_true,mTwice k (by omega),mOnce k (by omega)]
  constructor
  ·rintro (⟨a,b,h1,h2,h3,h4⟩|⟨⟨j,h1,h2⟩,h3⟩)
   ·exact ⟨a,b,h1,by omega,h3,h4⟩
   ·exact ⟨j,k,h1,by omega,h2,h3⟩
  ·rintro ⟨a,b,h1,h2,h3,h4⟩
   by_cases e:b=k
   ·subst e;exact .inr ⟨⟨a,h1,h3⟩,h4⟩
   ·exact .inl ⟨a,b,h1,by omega,h3,h4⟩
theorem sizeTo_cnt (M:Nat):∀k,sizeTo M k=cntB (64*k) M
 | 0=>rfl
 | k+1=>by
  simp only[sizeTo]
  rw[sizeTo_cnt M k]
  unfold cntB
  rw[show 64*(k+1)=64*k+64 from by omega,List.range_add,List.filter_append,List.length_append,List.filter_map,List.length_map]
  congr 2
  refine List.filter_congr fun i hi=>?_
  rw[testBit_word M k i (by simpa using hi)]
  rfl
theorem sizeM_cnt (M:Nat):sizeM M=cntB 256 M:=sizeTo_cnt M 4
theorem sizeM_zero {M:Nat}:sizeM M=0↔∀i,i<256→M.testBit i=false:=by
 rw[sizeM_cnt]
 unfold cntB
 rw[List.length_eq_zero_iff,List.filter_eq_nil_iff]
 simp
theorem one_filter {p:Nat→Bool} {a:Nat}:∀l:List Nat,l.Nodup→a∈l→p a=true→(∀b,b∈l→p b=true→b=a)→l.filter p=[a]
 | x :: l,hn,ha,hp,hu=>by
  rw[List.nodup_cons] at hn
  by_cases e:x=a
  ·subst e
   rw[List.filter_cons_of_pos hp]
   congr 1
   rw[List.filter_eq_nil_iff]
   intro b hb hpb
   have:=hu b (List.mem_cons_of_mem _ hb) hpb
   subst this
   exact hn.1 hb
  ·have ha':a∈l:=by
    rcases List.mem_cons.1 ha with h|h
    ·exact absurd h.symm e
    ·exact h
   rw[List.filter_cons_of_neg (fun hx=>e (hu x List.mem_cons_self hx))]
   exact one_filter l hn.2 ha' hp (fun b hb=>hu b (List.mem_cons_of_mem _ hb))
theorem sizeM_one {M:Nat}:sizeM M=1↔∃a,a<256∧M.testBit a=true∧∀b,b<256→M.testBit b=true→b=a:=by
 rw[sizeM_cnt]
 unfold cntB
 constructor
 ·intro h
  rw[List.length_eq_one_iff] at h
  obtain ⟨a,h⟩:=h
  have h1:∀b,b<256→M.testBit b=true→b=a:=fun b hb ht=>by
   have:b∈(List.range 256).filter fun i=>M.testBit i:=List.mem_filter.2 ⟨by simpa using hb,ht⟩
   rw[h] at this
   simpa using this
  have h2:a∈(List.range 256).filter fun i=>M.testBit i:=by rw[h];simp
  rw[List.mem_filter] at h2
  exact ⟨a,by simpa using h2.1,h2.2,h1⟩
 ·rintro ⟨a,h1,h2,h3⟩
  rw[one_filter (p:=fun i=>M.testBit i) (a:=a) (List.range 256) List.nodup_range (by simpa using h1) h2 (fun b hb hp=>h3 b (by simpa using hb) hp)]
  rfl
theorem blen_hi:∀f x j,x<2 ^ f→x.testBit j=true→j<Lib.bitLenAux f x
 | 0,x,j,h,hb=>by
  rw[show x=0 from by simpa using h] at hb
  simp at hb
 | f+1,x,j,h,hb=>by
  have hx:x≠0:=by rintro rfl;simp at hb
  simp only[Lib.bitLenAux]
  rw[if_neg hx]
  cases j with
  | zero=>omega
  | succ j =>
   rw[Nat.testBit_succ] at hb
   have:=blen_hi f (x / 2) j (by rw[Nat.pow_succ] at h;omega) hb
   omega
theorem blen_at:∀f x,x<2 ^ f→x≠0→0<Lib.bitLenAux f x∧x.testBit (Lib.bitLenAux f x - 1)=true
 | 0,x,h,hx=>absurd (show x=0 from by simpa using h) hx
 | f+1,x,h,hx=>by
  simp only[Lib.bitLenAux]
  rw[if_neg hx]
  refine ⟨by omega,?_⟩
  by_cases h2:x / 2=0
  ·have:x=1:=by omega
   subst this
   rw[show (1:Nat) / 2=0 from rfl]
   have h0:Lib.bitLenAux f 0=0:=by cases f <;> simp[Lib.bitLenAux]
   rw[h0]
   decide
  ·have ⟨h3,h4⟩:=blen_at f (x / 2) (by rw[Nat.pow_succ] at h;omega) h2
   generalize Lib.bitLenAux f (x / 2)=L at *
   rw[show 1+L - 1=(L - 1)+1 from by omega,Nat.testBit_succ]
   exact h4
theorem greatTo_hi {M:Nat}:∀k j,j<64*k→M.testBit j=true→j<greatTo M k
 | 0,j,h,_=>absurd h (by omega)
 | k+1,j,h,hb=>by
  simp only[greatTo]
  by_cases e:j<64*k
  ·split
   ·exact greatTo_hi k j e hb
   ·omega
  ·have hw:(word M k).testBit (j - 64*k)=true:=by rw[testBit_word M k _ (by omega),show 64*k+(j - 64*k)=j from by omega];exact hb
   have hz:word M k≠0:=by intro h0;rw[h0] at hw;simp at hw
   rw[if_neg hz]
   have:=blen_hi 64 (word M k) (j - 64*k) (word_lt M k) hw
   unfold Lib.bitLen
   omega
theorem greatTo_at {M:Nat}:∀k,0<greatTo M k→greatTo M k≤64*k∧M.testBit (greatTo M k - 1)=true
 | 0,h=>absurd h (by simp[greatTo])
 | k+1,h=>by
  simp only[greatTo] at h ⊢
  by_cases hz:word M k=0
  ·rw[if_pos hz] at h ⊢
   have:=greatTo_at k h
   exact ⟨by omega,this.2⟩
  ·rw[if_neg hz] at h ⊢
   have ⟨h1,h2⟩:=blen_at 64 (word M k) (word_lt M k) hz
   have h3:Lib.bitLenAux 64 (word M k)≤64:=bitLenAux_le 64 _
   unfold Lib.bitLen
   generalize Lib.bitLenAux 64 (word M k)=L at *
   rw[testBit_word M k _ (by omega)] at h2
   refine ⟨by omega,?_⟩
   rw[show 64*k+L - 1=64*k+(L - 1) from by omega]
   exact h2
theorem great_hi {M j:Nat} (h1:1≤j) (h2:j≤256) (hb:M.testBit (j - 1)=true):j≤greatM M:=by
 have:=greatTo_hi (M:=M) 4 (j - 1) (by omega) hb
 unfold greatM
 omega
theorem great_at {M:Nat} (h:0<greatM M):greatM M≤256∧M.testBit (greatM M - 1)=true:=greatTo_at 4 h
end
section
open Go Go.RowKit
theorem sub_two:∀{L l:List Nat},l.Sublist L→∀a b,a<b→b<l.length→∃i j,i<j∧j<L.length∧L[i]?.getD 0=l[a]?.getD 0∧L[j]?.getD 0=l[b]?.getD 0:=by
 intro L l h
 induction h with
 | slnil=>intro a b _ h;exact absurd h (by simp)
 | cons x h ih =>
  intro a b h1 h2
  obtain ⟨i,j,h3,h4,h5,h6⟩:=ih a b h1 h2
  exact ⟨i+1,j+1,by omega,by simpa using h4,by simpa using h5,by simpa using h6⟩
 | @cons_cons l L x h ih =>
  intro a b h1 h2
  obtain ⟨b,rfl⟩:∃b',b=b'+1:=⟨b - 1,by omega⟩
  simp only[List.length_cons] at h2
  cases a with
  | zero =>
   have hm:l[b]'(by omega)∈L:=h.subset (List.getElem_mem _)
   obtain ⟨j,hj,e⟩:=List.getElem_of_mem hm
   refine ⟨0,j+1,by omega,by simpa using hj,by simp,?_⟩
   simp only[List.getElem?_cons_succ]
   rw[List.getElem?_eq_getElem hj,List.getElem?_eq_getElem (show b<l.length by omega),e]
  | succ a =>
   obtain ⟨i,j,h3,h4,h5,h6⟩:=ih a b (by omega) (by omega)
   exact ⟨i+1,j+1,by omega,by simpa using h4,by simpa using h5,by simpa using h6⟩
def BoundC (Ms:List Nat) (n:Nat):Prop:=∀i b:Nat,(Ms[i]?.getD 0).testBit b=true→b<n
theorem bound_drop {Ms:List Nat} {r:Rem} {n:Nat} (h:BoundC Ms n):BoundC (dropR Ms r) n:=by
 intro i b ht
 unfold dropR at ht
 by_cases e:i=r.2.1
 ·subst e
  by_cases hl:r.2.1<Ms.length
  ·rw[List.getElem?_set_self hl,Option.getD_some,testBit_clear,Bool.and_eq_true] at ht
   exact h _ b ht.1
  ·rw[List.getElem?_eq_none (by rw[List.length_set];omega)] at ht
   simp at ht
 ·rw[List.getElem?_set_ne (fun h=>e h.symm)] at ht
  exact h i b ht
theorem allM_bit {n b:Nat}:(allM n).testBit b=decide (b<n):=by
 induction n with
 | zero=>simp[allM]
 | succ n ih =>
  simp only[allM]
  rw[Nat.testBit_or,ih,Nat.testBit_two_pow]
  rw[Bool.eq_iff_iff]
  simp
  omega
theorem begL_at {g:List Int} {i:Nat} (h:i<g.length):(begL g)[i]?.getD 0=begM g.length (g[i]?.getD 0):=by
 unfold begL
 rw[List.getElem?_map,List.getElem?_eq_getElem h]
 rfl
theorem begL_bound {g:List Int} (hg:∀k,k<g.length→g[k]?.getD 0≤(g.length:Int)):BoundC (begL g) g.length:=by
 intro i b ht
 by_cases hi:i<g.length
 ·rw[begL_at hi] at ht
  unfold begM at ht
  have:=hg i hi
  split at ht
  ·rw[Nat.testBit_two_pow,decide_eq_true_eq] at ht
   omega
  ·rw[allM_bit,decide_eq_true_eq] at ht
   exact ht
 ·rw[List.getElem?_eq_none (by unfold begL;simp;omega)] at ht
  simp at ht
theorem small_mask {M:Nat} (h:∀b,M.testBit b=true→b<256):M<2 ^ 256:=by
 apply Nat.lt_pow_two_of_testBit
 intro i hi
 rw[Bool.eq_false_iff]
 intro ht
 have:=h i ht
 omega
end
section
open Go Go.RowKit
attribute [local go_sem] over_cell
attribute [local go_sem] Oper.semAt_some
theorem remsL_len:∀R:List Rem,(remsL R).length=R.length*4
 | []=>rfl
 | r :: R=>by
  have:=remsL_len R
  simp only[remsL,List.length_append,this,List.length_cons,remA,List.length_nil]
  omega
theorem remsL_get:∀(R:List Rem) (k q:Nat) (v:Value),k<R.length→(remA (R[k]?.getD default))[q]?=some v→(remsL R)[k*4+q]?=some v
 | r :: R,0,q,v,_,hq=>by
  have hq4:q<4:=by
   rcases Nat.lt_or_ge q 4 with h|h
   ·exact h
   ·rw[List.getElem?_eq_none (by simpa [remA] using h)] at hq;cases hq
  simp only[remsL]
  rw[List.getElem?_append_left (by simp[remA];omega)]
  simpa using hq
 | r :: R,k+1,q,v,hk,hq=>by
  simp only[remsL]
  rw[List.getElem?_append_right (by simp[remA];omega),show (k+1)*4+q - (remA r).length=k*4+q from by simp[remA];omega]
  exact remsL_get R k q v (by simpa using hk) (by simpa using hq)
def RM (w:World) (a:Option Addr) (n:Nat) (R:List Rem):Prop :=
 (R.length=n∧n≤65536)∧∀k,k<n→∃b off,a=some ⟨b,off,none⟩∧b<w.heap.size∧∀q v,(remA (R[k]?.getD default))[q]?=some v→w.cell? ⟨b,off+k*4+q,none⟩=some v
theorem RM.mono {w w':World} {a:Option Addr} {n:Nat} {R:List Rem} (h:RM w a n R) (hb:Below w.heap.size w w'):RM w' a n R :=
 ⟨h.1,fun k hk=>by
  obtain ⟨b,off,e,hlt,hc⟩:=h.2 k hk
  exact ⟨b,off,e,Nat.lt_of_lt_of_le hlt hb.size,fun q v hv=>((bcell hb).1 b _ hlt).trans (hc q v hv)⟩⟩
theorem RM.of_owns {w:World} {base n c m:Nat} {a:Option Addr} {R:List Rem} (h:w.ownsRow base 56 4 (.slice a n c) m (remsL R)) (hn:R.length≤65536):RM w a n R∧n≤c:=by
 have hl:=h.1
 rw[remsL_len] at hl
 rcases h.2 with ⟨h2,h3⟩|⟨g,cap,cur,hv,hb,hh,hnc,hm,hs,ht⟩
 ·simp only[Value.slice.injEq] at h2
  obtain ⟨rfl,rfl,rfl⟩:=h2
  exact ⟨⟨⟨by omega,by omega⟩,fun k hk=>by omega⟩,by omega⟩
 ·simp only[Value.slice.injEq] at hv
  obtain ⟨rfl,rfl,rfl⟩:=hv
  refine ⟨⟨⟨by omega,by omega⟩,fun k hk=>⟨g,0,rfl,lt_of_block hh,fun q v hq=>?_⟩⟩,hnc⟩
  have hq4:q<4:=by
   rcases Nat.lt_or_ge q 4 with h|h
   ·exact h
   ·rw[List.getElem?_eq_none (by simpa [remA] using h)] at hq;cases hq
  have h4:=remsL_get R k q v (by omega) hq
  rw[← ht,List.getElem?_take,if_pos (by omega)] at h4
  rw[show 0+k*4+q=k*4+q from by omega,cell_of_row w g _ cur _ (0,0) hh]
  simpa using h4
theorem owns_slice9 {w:World} {base:Nat} {e:TypeId} {size:Nat} {v:Value} {n:Nat} {xs:List Value} (h:w.ownsRow base e size v n xs):∃a m c,v = .slice a m c:=by
 rcases h.2 with ⟨e2,_⟩|⟨g,cap,cur,e2,_⟩
 ·exact ⟨_,_,_,e2⟩
 ·exact ⟨_,_,_,e2⟩
theorem reasons_c (a:Option Addr) (n c:Nat) (ls:List (List Int)) (cells sum:Int) (a':Option Addr) (n' c':Nat) (g:List Int) (w:World) (h:RC w a n ls) (hcap:n≤c) (h':IC w a' n' g) (hcap':n'≤c') :
  Calls Tryz.prog 26 #[.agg #[.int .i64 cells,.slice a n c,.int .i64 sum,.slice a' n' c']] w fun e w'=>∃ar nr cr,e = .returned (.tuple #[.slice ar nr cr,.int .i64 (taskErr cells ls sum g)])∧(taskErr cells ls sum g≠0→ar=none∧nr=0)∧(taskErr cells ls sum g=0→∃k,stepR ls sum (allM n') (iterR ls sum (allM n') k (begL g)).2=none∧RM w' ar nr (iterR ls sum (allM n') k (begL g)).1)∧nr≤cr∧Below w.heap.size w w':=by
 have H:=Lib.hid h
 have H':=Lib.hid h'
 have HT:=Lib.hid (fun w1 (hb:Below w.heap.size w w1)=>task_c a n c ls cells sum a' n' c' g w1 (h.mono hb) hcap (h'.mono hb) hcap')
 clear h h'
 go_enter Tryz.func26,Tryz.ntmps26
 go_wp2_with fail
 have fsz:(w.alloc (.cells #[.int .i64 cells,.slice a n c,.int .i64 sum,.slice a' n' c'] 27)).heap.size=w.heap.size+1:=by simp only[World.size_alloc]
 have fB:Below w.heap.size w (w.alloc (.cells #[.int .i64 cells,.slice a n c,.int .i64 sum,.slice a' n' c'] 27)):=(Below.refl _ _).alloc (Nat.le_refl _) _
 have fq0:(w.alloc (.cells #[.int .i64 cells,.slice a n c,.int .i64 sum,.slice a' n' c'] 27)).heap[w.heap.size]?=some (.cells #[.int .i64 cells,.slice a n c,.int .i64 sum,.slice a' n' c'] 27 (0,0)):=by have h:=World.alloc_heap_new w (.cells #[.int .i64 cells,.slice a n c,.int .i64 sum,.slice a' n' c'] 27);exact h
 generalize (w.alloc (.cells #[.int .i64 cells,.slice a n c,.int .i64 sum,.slice a' n' c'] 27))=W0 at fsz fB fq0 ⊢
 have fsz':w.heap.size<W0.heap.size:=by omega
 clear fsz
 refine (HT.out W0 fB).mono ?_
 rintro _ w1 ⟨rfl,hb1⟩
 have HQ1:=Lib.hid (keepq hb1 fq0)
 have hB1:=fB.trans (hb1.mono fB.size)
 clear HT fq0
 by_cases he:(taskErr cells ls sum g != 0)=true
 ·have hne:taskErr cells ls sum g≠0:=by simpa using he
  have HNE:=Lib.hid hne
  clear hne
  obtain ⟨er,her⟩:∃er,taskErr cells ls sum g=er:=⟨_,rfl⟩
  have HER:=Lib.hid her
  rw[her] at he
  rw[her]
  clear her
  go_wp2_with fail
  go_ret2
  exact ⟨none,0,0,by rw[HER.out];rfl,fun _=>⟨rfl,rfl⟩,fun h=>absurd h HNE.out,by omega,hB1⟩
 ·have he0:taskErr cells ls sum g=0:=by simpa using he
  have G:=Lib.hid (goodTask he0)
  have HE0:=Lib.hid he0
  rw[he0]
  clear he he0
  have hn2:n'≤256:=by have:=G.out.glen;have:=H'.out.len;omega
  have x0:w1.cell? ⟨w.heap.size,0,none⟩=some (.int .i64 cells):=q_cell HQ1.out 0
  have x1:w1.cell? ⟨w.heap.size,1,none⟩=some (.slice a n c):=q_cell HQ1.out 1
  have x2:w1.cell? ⟨w.heap.size,2,none⟩=some (.int .i64 sum):=q_cell HQ1.out 2
  have x3:w1.cell? ⟨w.heap.size,3,none⟩=some (.slice a' n' c'):=q_cell HQ1.out 3
  have xl:=q_lt HQ1.out
  go_wp2_with fail
  refine (fbegin_c a n c cells sum a' n' c' g w1 (H'.out.mono hB1) hn2 G.out.num').mono ?_
  rintro _ w2 ⟨b,a9,c9,rfl,hqb,hbge,hown,hb2⟩
  have hB2:=hB1.trans (hb2.mono hB1.size)
  have hsz1:=hB1.size
  clear x0 x1 x2 x3 xl
  have HBL:Hid ((begL g).length=n'):=by unfold Hid begL;rw[List.length_map,H'.out.len]
  have HS:=Lib.hid (settle_c w b (.int .i64 cells) (.slice a' n' c') a n c ls sum a9 n' c9 (allM n') (begL g) w2 hqb hown HBL.out hn2 H.out hB2 (by omega) (fun l hl=>by
   have h1:=G.out.lineShort hl
   have h2:=G.out.cells2
   have h3:=(G.out.lineLen hl).2
   have h4:=G.out.len
   have h5:=H'.out.len
   exact ⟨by omega,fun x hx=>by have:=h3 x hx;omega⟩) G.out.sum1 G.out.sum2)
  clear hqb hown
  go_wp2_with fail
  refine HS.out.mono ?_
  rintro _ w3 ⟨k,v,rfl,hend,hrm,hlen,_,_,hBk⟩
  have hB3:Below w.heap.size w w3:=hB2.trans (hBk.mono (by omega))
  obtain ⟨a8,n8,c8,rfl⟩:∃a n c,v = .slice a n c:=owns_slice9 hrm
  have hR:=RM.of_owns hrm (by omega)
  have HR:=Lib.hid hR
  have HEND:=Lib.hid hend
  clear hrm hlen hend hR
  go_wp2_with fail
  go_ret2
  exact ⟨a8,n8,c8,by rw[HE0.out];rfl,fun h=>absurd HE0.out h,fun _=>⟨k,HEND.out,HR.out.1⟩,HR.out.2,hB3⟩
end
end Go.Proofs.YtcblpobiefmjmaaGreat
