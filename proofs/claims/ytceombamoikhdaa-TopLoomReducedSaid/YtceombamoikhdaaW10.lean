/- Texts J43 to J44 of this proof, in one file. -/
import Derived.Test.YtceombamoikhdaaW09
namespace Go.Proofs.Ytceombamoikhdaa
set_option maxRecDepth 100000
set_option maxHeartbeats 16000000
section
open Go Go.RowKit
attribute [local go_sem] over_cell
attribute [local go_sem] Oper.semAt_some
def dAS (n:Nat) (cs:List Int) (i j:Nat):Int:=(cs[i*n+j]?.getD 0 - 1) % (n:Int)
def dBS (n:Nat) (cs:List Int) (i j:Nat):Int:=(cs[i*n+j]?.getD 0 - 1) / (n:Int)
def dAL (n:Nat) (cs:List Int):List Int:=madeTo n (dAS n cs) (n*n)
def dBL (n:Nat) (cs:List Int):List Int:=madeTo n (dBS n cs) (n*n)
structure Nor (n:Nat) (cs:List Int):Prop where
 n1:1≤n
 n2:n≤16
 len:cs.length=n*n
 nor:norB cs=true
theorem Nor.num {n:Nat} {cs:List Int} (N:Nor n cs) {k:Nat} (hk:k<n*n):1≤cs[k]?.getD 0∧cs[k]?.getD 0≤((n*n:Nat):Int):=by
 have h:=N.nor
 unfold norB at h
 rw[List.all_eq_true] at h
 have h1:=h k (List.mem_range.2 (by rw[N.len];exact hk))
 rw[Bool.not_eq_true'] at h1
 unfold badN at h1
 rw[Bool.or_eq_false_iff,Bool.or_eq_false_iff,decide_eq_false_iff_not,decide_eq_false_iff_not,N.len] at h1
 omega
theorem enterDa:∀args w,Sem.run Try.prog (callFunc 41 args) w = .ok (.enter 41 args) w:=by
 intro args w;kernel_rfl
theorem enterDb:∀args w,Sem.run Try.prog (callFunc 42 args) w = .ok (.enter 42 args) w:=by
 intro args w;kernel_rfl
theorem dig1_c (n:Nat) (a:Option Addr) (m c:Nat) (cs:List Int) (w:World) (b0 b2 i j:Nat) (h:IC w a m cs) (N:Nor n cs) (hi:i<n) (hj:j<n)
  (hq0:w.heap[b0]?=some (.cells #[.int .i64 (n:Int),.int .i64 (n:Int),.slice a m c] 24 (0,0)))
  (hq2:w.heap[b2]?=some (.cells #[.int .i64 (n:Int)] 3 (0,0))) :
  Calls Try.prog 41 #[.int .i64 (i:Int),.int .i64 (j:Int),.pointer (some ⟨b0,0,none⟩),.pointer (some ⟨b2,0,none⟩)] w fun e w'=>e = .returned (.int .i64 (dAS n cs i j))∧Below w.heap.size w w':=by
 have hn1:=N.n1
 have hn2:=N.n2
 have hp:i*n+j<n*n:=gcell_lt hi hj
 have hpm:i*n+j<m:=by rw[← h.len,N.len];exact hp
 have hnn:n*n≤16*16:=Nat.mul_le_mul hn2 hn2
 have hx:=N.num hp
 unfold dAS
 obtain ⟨b,off,rfl,hb,hc⟩:=h.2 _ hpm
 obtain ⟨y,hye⟩:∃y:Nat,cs[i*n+j]?.getD 0=((y+1:Nat):Int):=⟨(cs[i*n+j]?.getD 0 - 1).toNat,by omega⟩
 rw[hye] at hc hx ⊢
 have hyb:y≤256:=by omega
 obtain ⟨x,hxy⟩:∃x,x=y+1:=⟨_,rfl⟩
 rw[← hxy] at hc
 have hyx:((x:Int) - 1)=(y:Int):=by omega
 rw[show (((y+1:Nat):Int) - 1)=(y:Int) by omega]
 have hxb:1≤x∧x≤257:=by omega
 obtain ⟨p,hpe⟩:∃p,p=i*n:=⟨_,rfl⟩
 rw[← hpe] at hp hpm hc
 have hmul:(n:Int)*(i:Int)=(p:Int):=by rw[← Int.natCast_mul,hpe,Nat.mul_comm]
 have hpb:p≤256:=by omega
 have hjb:j<16:=by omega
 have h3:(p:Int)+(j:Int)<(m:Int):=by omega
 have hnI:(n:Int)≠0:=by omega
 obtain ⟨x0,x1,x2,xl⟩:=c3_of hq0
 obtain ⟨v0,v1,v2⟩:=c1_of hq2
 have hdv:Hid (wrap64 ((y:Int) / (n:Int))=(y:Int) / (n:Int)):=by show wrap64 ((y:Int) / (n:Int))=(y:Int) / (n:Int);rw[divw (by omega)];rfl
 clear h hpe hye hq0 hq2 hx hp hnn hxy
 go_enter Try.func41,Try.ntmps41
 go_wp2_with fail
 refine wp_region_S (fun w'=>∃u,w'=over (w) u) [12] [(0,0),(0,1),(0,2),(0,3),(0,4),(0,5),(0,6),(0,7),(0,8),(0,9),(0,10),(0,11),(2,12)] (by kernel_rfl) (by kernel_rfl) (by exact ⟨_,below_over (by repeat (first|assumption|exact Below.refl _ _|refine keep_drew ?_|refine keep_alloc ?_ _|refine keep_trans ?_ (by assumption)))⟩) ?_
 dsimp only[pickOps,nthOp]
 repeat (first|(refine wpS_skip rfl (fun K hK=>?_);go_big_quiet_op;refine hK _ ?_;clear hK K)|(refine wpS_quiet rfl rfl (fun K hK=>?_);go_big_quiet_op;refine hK _ ?_;clear hK K))
 refine wpS_late _ _ _ rfl ?_
 dsimp only[List.map]
 go_wp2_with (fail)
 refine NoPanic.normal ?_
 go_wp2_with fail
 go_ret
 exact ⟨rfl,(Below.refl _ _).drew⟩
theorem dig2_c (n:Nat) (a:Option Addr) (m c:Nat) (cs:List Int) (w:World) (b0 b2 i j:Nat) (h:IC w a m cs) (N:Nor n cs) (hi:i<n) (hj:j<n)
  (hq0:w.heap[b0]?=some (.cells #[.int .i64 (n:Int),.int .i64 (n:Int),.slice a m c] 24 (0,0)))
  (hq2:w.heap[b2]?=some (.cells #[.int .i64 (n:Int)] 3 (0,0))) :
  Calls Try.prog 42 #[.int .i64 (i:Int),.int .i64 (j:Int),.pointer (some ⟨b0,0,none⟩),.pointer (some ⟨b2,0,none⟩)] w fun e w'=>e = .returned (.int .i64 (dBS n cs i j))∧Below w.heap.size w w':=by
 have hn1:=N.n1
 have hn2:=N.n2
 have hp:i*n+j<n*n:=gcell_lt hi hj
 have hpm:i*n+j<m:=by rw[← h.len,N.len];exact hp
 have hnn:n*n≤16*16:=Nat.mul_le_mul hn2 hn2
 have hx:=N.num hp
 unfold dBS
 obtain ⟨b,off,rfl,hb,hc⟩:=h.2 _ hpm
 obtain ⟨y,hye⟩:∃y:Nat,cs[i*n+j]?.getD 0=((y+1:Nat):Int):=⟨(cs[i*n+j]?.getD 0 - 1).toNat,by omega⟩
 rw[hye] at hc hx ⊢
 have hyb:y≤256:=by omega
 obtain ⟨x,hxy⟩:∃x,x=y+1:=⟨_,rfl⟩
 rw[← hxy] at hc
 have hyx:((x:Int) - 1)=(y:Int):=by omega
 rw[show (((y+1:Nat):Int) - 1)=(y:Int) by omega]
 have hxb:1≤x∧x≤257:=by omega
 obtain ⟨p,hpe⟩:∃p,p=i*n:=⟨_,rfl⟩
 rw[← hpe] at hp hpm hc
 have hmul:(n:Int)*(i:Int)=(p:Int):=by rw[← Int.natCast_mul,hpe,Nat.mul_comm]
 have hpb:p≤256:=by omega
 have hjb:j<16:=by omega
 have h3:(p:Int)+(j:Int)<(m:Int):=by omega
 have hnI:(n:Int)≠0:=by omega
 obtain ⟨x0,x1,x2,xl⟩:=c3_of hq0
 obtain ⟨v0,v1,v2⟩:=c1_of hq2
 have hdv:Hid (wrap64 ((y:Int) / (n:Int))=(y:Int) / (n:Int)):=by show wrap64 ((y:Int) / (n:Int))=(y:Int) / (n:Int);rw[divw (by omega)];rfl
 clear h hpe hye hq0 hq2 hx hp hnn hxy
 go_enter Try.func42,Try.ntmps42
 go_wp2_with fail
 refine wp_region_S (fun w'=>∃u,w'=over (w) u) [12] [(0,0),(0,1),(0,2),(0,3),(0,4),(0,5),(0,6),(0,7),(0,8),(0,9),(0,10),(0,11),(2,12)] (by kernel_rfl) (by kernel_rfl) (by exact ⟨_,below_over (by repeat (first|assumption|exact Below.refl _ _|refine keep_drew ?_|refine keep_alloc ?_ _|refine keep_trans ?_ (by assumption)))⟩) ?_
 dsimp only[pickOps,nthOp]
 repeat (first|(refine wpS_skip rfl (fun K hK=>?_);go_big_quiet_op;refine hK _ ?_;clear hK K)|(refine wpS_quiet rfl rfl (fun K hK=>?_);go_big_quiet_op;refine hK _ ?_;clear hK K))
 refine wpS_late _ _ _ rfl ?_
 dsimp only[List.map]
 go_wp2_with (fail)
 refine NoPanic.normal ?_
 go_wp2_with fail
 go_ret
 exact ⟨ret_int hdv.out,(Below.refl _ _).drew⟩
theorem st6 {W W':World} {A B:Nat} {u0 u1 u2 v0 v1 v2 x0 x1 x2 y0 y1 y2:Value} {T T2:TypeId} (qA:W.heap[A]?=some (.cells #[u0,u1,u2] T (0,0))) (qB:W.heap[B]?=some (.cells #[v0,v1,v2] T2 (0,0))) (hne:A≠B)
  (hb:Below ((((((W.setCell ⟨A,0,none⟩ x0).setCell ⟨A,1,none⟩ x1).setCell ⟨A,2,none⟩ x2).setCell ⟨B,0,none⟩ y0).setCell ⟨B,1,none⟩ y1).setCell ⟨B,2,none⟩ y2).heap.size ((((((W.setCell ⟨A,0,none⟩ x0).setCell ⟨A,1,none⟩ x1).setCell ⟨A,2,none⟩ x2).setCell ⟨B,0,none⟩ y0).setCell ⟨B,1,none⟩ y1).setCell ⟨B,2,none⟩ y2) W') :
  W'.heap[A]?=some (.cells #[x0,x1,x2] T (0,0))∧W'.heap[B]?=some (.cells #[y0,y1,y2] T2 (0,0)) ∧
  (∀(K n:Nat) (e:TypeId) (v:Value) (xs:List Value),W.ownsRow K e 1 v n xs→v.ownBlock≠some A→v.ownBlock≠some B→W'.ownsRow K e 1 v n xs) ∧
  (∀(K:Nat) (w:World),Below K w W→K≤A→K≤B→K≤W.heap.size→Below K w W'):=by
 have a:=st3_q (x0:=x0) (x1:=x1) (x2:=x2) qA
 have b:=q_other (i:=2) (q_other (i:=1) (q_other (i:=0) qB hne.symm x0) hne.symm x1) hne.symm x2
 have c:=q_other (i:=2) (q_other (i:=1) (q_other (i:=0) a hne y0) hne y1) hne y2
 have d:=st3_q (x0:=y0) (x1:=y1) (x2:=y2) b
 have hs:W.heap.size≤((((((W.setCell ⟨A,0,none⟩ x0).setCell ⟨A,1,none⟩ x1).setCell ⟨A,2,none⟩ x2).setCell ⟨B,0,none⟩ y0).setCell ⟨B,1,none⟩ y1).setCell ⟨B,2,none⟩ y2).heap.size:=((((((KeepsOthers.setCell W ⟨A,0,none⟩ x0).trans (KeepsOthers.setCell _ ⟨A,1,none⟩ x1)).trans (KeepsOthers.setCell _ ⟨A,2,none⟩ x2)).trans (KeepsOthers.setCell _ ⟨B,0,none⟩ y0)).trans (KeepsOthers.setCell _ ⟨B,1,none⟩ y1)).trans (KeepsOthers.setCell _ ⟨B,2,none⟩ y2)).size
 refine ⟨keepq hb c,keepq hb d,fun K n e v xs h h1 h2=>?_,fun K w h h1 h2 h3=>?_⟩
 ·have h5:=st3_own (x0:=x0) (x1:=x1) (x2:=x2) h h1
  have h6:=st3_own (x0:=y0) (x1:=y1) (x2:=y2) h5 h2
  exact owns_keep h6 (fun k _ hl=>hb.block k hl)
 ·have h5:=st3_below (x0:=x0) (x1:=x1) (x2:=x2) h h1
  have h6:=st3_below (x0:=y0) (x1:=y1) (x2:=y2) h5 h2
  exact h6.trans (hb.mono (Nat.le_trans h3 hs))
theorem digits_c (n:Nat) (a:Option Addr) (m c:Nat) (cs:List Int) (w:World) (h:IC w a m cs) (N:Nor n cs) :
  Calls Try.prog 16 #[.agg #[.int .i64 (n:Int),.int .i64 (n:Int),.slice a m c]] w fun e w'=>∃a1 c1 a2 c2,
   e = .returned (.tuple #[.agg #[.int .i64 (n:Int),.int .i64 (n:Int),.slice a1 (dAL n cs).length c1],.agg #[.int .i64 (n:Int),.int .i64 (n:Int),.slice a2 (dBL n cs).length c2],.int .i64 0]) ∧
   w'.ownsRow w.heap.size 3 1 (.slice a1 (dAL n cs).length c1) (dAL n cs).length ((dAL n cs).map (Value.int .i64))∧w'.ownsRow w.heap.size 3 1 (.slice a2 (dBL n cs).length c2) (dBL n cs).length ((dBL n cs).map (Value.int .i64))∧Below w.heap.size w w':=by
 have HNO:Hid (∀W,Below w.heap.size w W→Calls Try.prog 34 #[.agg #[.int .i64 (n:Int),.int .i64 (n:Int),.slice a m c]] W fun e w'=>e = .returned (.int .i64 0)∧Below W.heap.size W w'):=by
  intro W hb
  have:=unormal_c (n:Int) (n:Int) a m c cs W (h.mono hb)
  rw[norE_sq N.n1 N.n2 N.len,N.nor] at this
  exact this
 have HMA:=Lib.hid (fun b0 b2 W (hb:Below w.heap.size w W) (q0:W.heap[b0]?=some (.cells #[.int .i64 (n:Int),.int .i64 (n:Int),.slice a m c] 24 (0,0))) (q2:W.heap[b2]?=some (.cells #[.int .i64 (n:Int)] 3 (0,0)))=>umade_c n N.n2 41 #[] #[.pointer (some ⟨b0,0,none⟩),.pointer (some ⟨b2,0,none⟩)] (dAS n cs) (dAL n cs) W rfl enterDa (fun i j hi hj W2 hb2=>dig1_c n a m c cs W2 b0 b2 i j (h.mono (keep_trans hb hb2)) N hi hj (keepq hb2 q0) (keepq hb2 q2)))
 have HMB:=Lib.hid (fun b0 b2 W (hb:Below w.heap.size w W) (q0:W.heap[b0]?=some (.cells #[.int .i64 (n:Int),.int .i64 (n:Int),.slice a m c] 24 (0,0))) (q2:W.heap[b2]?=some (.cells #[.int .i64 (n:Int)] 3 (0,0)))=>umade_c n N.n2 42 #[] #[.pointer (some ⟨b0,0,none⟩),.pointer (some ⟨b2,0,none⟩)] (dBS n cs) (dBL n cs) W rfl enterDb (fun i j hi hj W2 hb2=>dig2_c n a m c cs W2 b0 b2 i j (h.mono (keep_trans hb hb2)) N hi hj (keepq hb2 q0) (keepq hb2 q2)))
 clear h N
 generalize dAL n cs=ls at HMA ⊢
 generalize dBL n cs=rs at HMB ⊢
 go_enter Try.func16,Try.ntmps16
 go_upto_region 1 with fail
 have fsz:(((w.alloc (.cells #[.int .i64 (n:Int),.int .i64 (n:Int),.slice a m c] 24)).alloc (.cells #[.int .i64 0,.int .i64 0,.slice none 0 0] 24)).alloc (.cells #[.int .i64 0,.int .i64 0,.slice none 0 0] 24)).heap.size=w.heap.size+3:=by simp only[World.size_alloc] <;> omega
 have fB:Below w.heap.size w (((w.alloc (.cells #[.int .i64 (n:Int),.int .i64 (n:Int),.slice a m c] 24)).alloc (.cells #[.int .i64 0,.int .i64 0,.slice none 0 0] 24)).alloc (.cells #[.int .i64 0,.int .i64 0,.slice none 0 0] 24)):=(((Below.refl _ _).alloc (Nat.le_refl _) _).alloc (by simp only[World.size_alloc];omega) _).alloc (by simp only[World.size_alloc];omega) _
 have fq0:(((w.alloc (.cells #[.int .i64 (n:Int),.int .i64 (n:Int),.slice a m c] 24)).alloc (.cells #[.int .i64 0,.int .i64 0,.slice none 0 0] 24)).alloc (.cells #[.int .i64 0,.int .i64 0,.slice none 0 0] 24)).heap[w.heap.size]?=some (.cells #[.int .i64 (n:Int),.int .i64 (n:Int),.slice a m c] 24 (0,0)):=by have h:=World.alloc_heap_new w (.cells #[.int .i64 (n:Int),.int .i64 (n:Int),.slice a m c] 24);exact (Below.heap_alloc _ _ _ (by simp only[World.size_alloc];omega)).trans ((Below.heap_alloc _ _ _ (by simp only[World.size_alloc];omega)).trans (h))
 have fq1:(((w.alloc (.cells #[.int .i64 (n:Int),.int .i64 (n:Int),.slice a m c] 24)).alloc (.cells #[.int .i64 0,.int .i64 0,.slice none 0 0] 24)).alloc (.cells #[.int .i64 0,.int .i64 0,.slice none 0 0] 24)).heap[w.heap.size+1]?=some (.cells #[.int .i64 0,.int .i64 0,.slice none 0 0] 24 (0,0)):=by have h:=World.alloc_heap_new (w.alloc (.cells #[.int .i64 (n:Int),.int .i64 (n:Int),.slice a m c] 24)) (.cells #[.int .i64 0,.int .i64 0,.slice none 0 0] 24);simp only[World.size_alloc] at h;exact (Below.heap_alloc _ _ _ (by simp only[World.size_alloc];omega)).trans (h)
 have fq2:(((w.alloc (.cells #[.int .i64 (n:Int),.int .i64 (n:Int),.slice a m c] 24)).alloc (.cells #[.int .i64 0,.int .i64 0,.slice none 0 0] 24)).alloc (.cells #[.int .i64 0,.int .i64 0,.slice none 0 0] 24)).heap[w.heap.size+1+1]?=some (.cells #[.int .i64 0,.int .i64 0,.slice none 0 0] 24 (0,0)):=by have h:=World.alloc_heap_new ((w.alloc (.cells #[.int .i64 (n:Int),.int .i64 (n:Int),.slice a m c] 24)).alloc (.cells #[.int .i64 0,.int .i64 0,.slice none 0 0] 24)) (.cells #[.int .i64 0,.int .i64 0,.slice none 0 0] 24);simp only[World.size_alloc] at h;exact h
 generalize (((w.alloc (.cells #[.int .i64 (n:Int),.int .i64 (n:Int),.slice a m c] 24)).alloc (.cells #[.int .i64 0,.int .i64 0,.slice none 0 0] 24)).alloc (.cells #[.int .i64 0,.int .i64 0,.slice none 0 0] 24))=W0 at fsz fB fq0 fq1 fq2 ⊢
 obtain ⟨x0,x1,x2,xl⟩:=c3_of fq0
 have Q0:=Lib.hid fq0
 have Q1:=Lib.hid fq1
 have Q2:=Lib.hid fq2
 have HL2:=Lib.hid (q_lt fq2)
 clear fsz fq0 fq1 fq2
 go_upto_region 5 with (first|(go_at_call 34;refine (HNO.out _ fB).mono ?_;rintro _ w1 ⟨rfl,hb1⟩;clear x0 x1 x2 xl;have q1:=keepq hb1 Q0.out;obtain ⟨x0,x1,x2,xl⟩:=c3_of q1))
 have gsz:(w1.alloc (.cells #[.int .i64 (n:Int)] 3)).heap.size=w1.heap.size+1:=by simp only[World.size_alloc]
 have gB:Below w1.heap.size w1 (w1.alloc (.cells #[.int .i64 (n:Int)] 3)):=(Below.refl _ _).alloc (Nat.le_refl _) _
 have gq0:(w1.alloc (.cells #[.int .i64 (n:Int)] 3)).heap[w1.heap.size]?=some (.cells #[.int .i64 (n:Int)] 3 (0,0)):=by have h:=World.alloc_heap_new w1 (.cells #[.int .i64 (n:Int)] 3);exact h
 generalize (w1.alloc (.cells #[.int .i64 (n:Int)] 3))=W6 at gsz gB gq0 ⊢
 obtain ⟨y0,yf,yl⟩:=c1_of gq0
 have HB6:=Lib.hid (keep_trans hb1 gB)
 have HG0:=Lib.hid gq0
 have HM6:=Lib.hid (HMA.out w.heap.size w1.heap.size W6 (keep_trans fB HB6.out) (keepq HB6.out Q0.out) gq0)
 have HSZ:Hid (w.heap.size+2<W0.heap.size∧W0.heap.size≤W6.heap.size):=⟨HL2.out,HB6.out.size⟩
 clear gsz gq0 x0 x1 x2 xl q1
 go_upto_region 6 with (first|(go_at_call 32;refine HM6.out.mono ?_;rintro _ w7 ⟨a1,c1,rfl,hown1,hb7⟩))
 have ksz:(w7.alloc (.cells #[.int .i64 (n:Int),.int .i64 (n:Int),.slice a1 ls.length c1] 24)).heap.size=w7.heap.size+1:=by simp only[World.size_alloc]
 have kB:Below w7.heap.size w7 (w7.alloc (.cells #[.int .i64 (n:Int),.int .i64 (n:Int),.slice a1 ls.length c1] 24)):=(Below.refl _ _).alloc (Nat.le_refl _) _
 have kq0:(w7.alloc (.cells #[.int .i64 (n:Int),.int .i64 (n:Int),.slice a1 ls.length c1] 24)).heap[w7.heap.size]?=some (.cells #[.int .i64 (n:Int),.int .i64 (n:Int),.slice a1 ls.length c1] 24 (0,0)):=by have h:=World.alloc_heap_new w7 (.cells #[.int .i64 (n:Int),.int .i64 (n:Int),.slice a1 ls.length c1] 24);exact h
 generalize (w7.alloc (.cells #[.int .i64 (n:Int),.int .i64 (n:Int),.slice a1 ls.length c1] 24))=W8 at ksz kB kq0 ⊢
 have hown8:=owns_keep hown1 (fun j _ hl=>kB.block j hl)
 have HB68:=Lib.hid (keep_trans hb7 kB)
 have HB8:=Lib.hid (keep_trans HB6.out HB68.out)
 have hk0:=keepq HB68.out HG0.out
 have HM8:=Lib.hid (HMB.out w.heap.size w1.heap.size W8 (keep_trans fB HB8.out) (keepq HB8.out Q0.out) hk0)
 clear y0 yf yl
 obtain ⟨y0,yf,yl⟩:=c1_of hk0
 have KQ:=Lib.hid kq0
 have HO8:=Lib.hid hown8
 clear ksz kq0 hown1 hk0 hown8
 go_upto_region 7 with (first|(go_at_call 32;refine HM8.out.mono ?_;rintro _ w9 ⟨a2,c2,rfl,hown2,hb9⟩))
 have lsz:(w9.alloc (.cells #[.int .i64 (n:Int),.int .i64 (n:Int),.slice a2 rs.length c2] 24)).heap.size=w9.heap.size+1:=by simp only[World.size_alloc]
 have lB:Below w9.heap.size w9 (w9.alloc (.cells #[.int .i64 (n:Int),.int .i64 (n:Int),.slice a2 rs.length c2] 24)):=(Below.refl _ _).alloc (Nat.le_refl _) _
 have lq0:(w9.alloc (.cells #[.int .i64 (n:Int),.int .i64 (n:Int),.slice a2 rs.length c2] 24)).heap[w9.heap.size]?=some (.cells #[.int .i64 (n:Int),.int .i64 (n:Int),.slice a2 rs.length c2] 24 (0,0)):=by have h:=World.alloc_heap_new w9 (.cells #[.int .i64 (n:Int),.int .i64 (n:Int),.slice a2 rs.length c2] 24);exact h
 generalize (w9.alloc (.cells #[.int .i64 (n:Int),.int .i64 (n:Int),.slice a2 rs.length c2] 24))=W10 at lsz lB lq0 ⊢
 have hB10:=Lib.hid (keep_trans hb9 lB)
 obtain ⟨u0,u1,u2,ul⟩:=c3_of (keepq hB10.out KQ.out)
 obtain ⟨v0,v1,v2,vl⟩:=c3_of lq0
 have q101:=keepq hB10.out (keepq HB8.out Q1.out)
 have q102:=keepq hB10.out (keepq HB8.out Q2.out)
 obtain ⟨d0,d1,d2,dl⟩:=c3_of q101
 obtain ⟨df0,df1,df2⟩:=f3_of q101
 obtain ⟨e0,e1,e2,el⟩:=c3_of q102
 obtain ⟨ef0,ef1,ef2⟩:=f3_of q102
 clear lsz lq0
 have hz7:W6.heap.size≤w7.heap.size:=hb7.size
 have hz8:w7.heap.size≤W8.heap.size:=kB.size
 have hz9:W8.heap.size≤w9.heap.size:=hb9.size
 have hsz:=HSZ.out
 have n1:w7.heap.size≠w.heap.size+1:=by omega
 have n2:w7.heap.size≠w.heap.size+1+1:=by omega
 have n3:w9.heap.size≠w.heap.size+1:=by omega
 have n4:w9.heap.size≠w.heap.size+1+1:=by omega
 have n5:w.heap.size+1≠w.heap.size+1+1:=by omega
 have n1':=n1.symm
 have n2':=n2.symm
 have n3':=n3.symm
 have n4':=n4.symm
 have n5':=n5.symm
 clear hsz hz7 hz8 hz9
 go_region
 have hD:Below ((((((W10.setCell ⟨w.heap.size+1,0,none⟩ (.int .i64 (n:Int))).setCell ⟨w.heap.size+1,1,none⟩ (.int .i64 (n:Int))).setCell ⟨w.heap.size+1,2,none⟩ (.slice a1 ls.length c1)).setCell ⟨w.heap.size+1+1,0,none⟩ (.int .i64 (n:Int))).setCell ⟨w.heap.size+1+1,1,none⟩ (.int .i64 (n:Int))).setCell ⟨w.heap.size+1+1,2,none⟩ (.slice a2 rs.length c2)).heap.size ((((((W10.setCell ⟨w.heap.size+1,0,none⟩ (.int .i64 (n:Int))).setCell ⟨w.heap.size+1,1,none⟩ (.int .i64 (n:Int))).setCell ⟨w.heap.size+1,2,none⟩ (.slice a1 ls.length c1)).setCell ⟨w.heap.size+1+1,0,none⟩ (.int .i64 (n:Int))).setCell ⟨w.heap.size+1+1,1,none⟩ (.int .i64 (n:Int))).setCell ⟨w.heap.size+1+1,2,none⟩ (.slice a2 rs.length c2)) ((((((W10.setCell ⟨w.heap.size+1,0,none⟩ (.int .i64 (n:Int))).setCell ⟨w.heap.size+1,1,none⟩ (.int .i64 (n:Int))).setCell ⟨w.heap.size+1,2,none⟩ (.slice a1 ls.length c1)).setCell ⟨w.heap.size+1+1,0,none⟩ (.int .i64 (n:Int))).setCell ⟨w.heap.size+1+1,1,none⟩ (.int .i64 (n:Int))).setCell ⟨w.heap.size+1+1,2,none⟩ (.slice a2 rs.length c2)).drew:=keep_drew (Below.refl _ _)
 obtain ⟨gA,gB,hO,hB⟩:=st6 (x0 := .int .i64 (n:Int)) (x1 := .int .i64 (n:Int)) (x2 := .slice a1 ls.length c1) (y0 := .int .i64 (n:Int)) (y1 := .int .i64 (n:Int)) (y2 := .slice a2 rs.length c2) q101 q102 n5 hD
 clear hD
 generalize ((((((W10.setCell ⟨w.heap.size+1,0,none⟩ (.int .i64 (n:Int))).setCell ⟨w.heap.size+1,1,none⟩ (.int .i64 (n:Int))).setCell ⟨w.heap.size+1,2,none⟩ (.slice a1 ls.length c1)).setCell ⟨w.heap.size+1+1,0,none⟩ (.int .i64 (n:Int))).setCell ⟨w.heap.size+1+1,1,none⟩ (.int .i64 (n:Int))).setCell ⟨w.heap.size+1+1,2,none⟩ (.slice a2 rs.length c2)).drew=W11 at gA gB hO hB ⊢
 go_wp2_with fail
 have hsz:=HSZ.out
 have hz8:=HB68.out.size
 have hz9:W8.heap.size≤W10.heap.size:=hB10.out.size
 have o1:=hO _ _ _ _ _ (owns_keep HO8.out (fun j _ hl=>hB10.out.block j hl)) (fun e=>by have:=(HO8.out.lt _ e).1;omega) (fun e=>by have:=(HO8.out.lt _ e).1;omega)
 have o2:=hO _ _ _ _ _ (owns_keep hown2 (fun j _ hl=>lB.block j hl)) (fun e=>by have:=(hown2.lt _ e).1;omega) (fun e=>by have:=(hown2.lt _ e).1;omega)
 have hBf:=hB w.heap.size w (keep_trans (keep_trans fB HB8.out) hB10.out) (by omega) (by omega) (by omega)
 obtain ⟨z0,z1,z2,zl⟩:=c3_of gA
 obtain ⟨s0,s1,s2,sl⟩:=c3_of gB
 refine bodyPost_ret (v := .tuple #[.agg #[.int .i64 (n:Int),.int .i64 (n:Int),.slice a1 ls.length c1],.agg #[.int .i64 (n:Int),.int .i64 (n:Int),.slice a2 rs.length c2],.int .i64 0]) ?_ rfl ⟨_,_,_,_,rfl,owns_base o1 (by omega),owns_base o2 (by omega),hBf⟩
 simp[results,Try.f16,go_sem,z0,z1,z2,s0,s1,s2]
end
section
open Go Go.RowKit
attribute [local go_sem] over_cell
attribute [local go_sem] Oper.semAt_some
theorem umod_c (x:Int) (n:Nat) (w:World) (hn:1≤n) (hn2:n≤1000000) :
  Calls Try.prog 65 #[.int .i64 x,.int .i64 (n:Int)] w fun e w'=>e = .returned (.int .i64 (x % (n:Int)))∧w=w':=by
 have hne:(n:Int)≠0:=by omega
 have hb:=Int.lt_tmod_of_pos x (show (0:Int)<(n:Int) by omega)
 have hb2:=Int.tmod_lt_of_pos x (show (0:Int)<(n:Int) by omega)
 go_enter Try.func65,Try.ntmps65
 go_wp2
 go_ret
 exact ⟨ret_int (tmod_up _ _),rfl⟩
structure Rul where
 n:Nat
 s0:Nat
 s1:Nat
 x0:Nat
 x1:Nat
 y0:Nat
 y1:Nat
def Rul.val (r:Rul):Value := .agg #[.int .i64 (r.n:Int),.int .i64 (r.s0:Int),.int .i64 (r.s1:Int),.int .i64 (r.x0:Int),.int .i64 (r.x1:Int),.int .i64 (r.y0:Int),.int .i64 (r.y1:Int)]
structure Rul.ok (r:Rul):Prop where
 n1:1≤r.n
 n2:r.n≤16
 s0:r.s0<r.n
 s1:r.s1<r.n
 x0:r.x0<r.n
 x1:r.x1<r.n
 y0:r.y0<r.n
 y1:r.y1<r.n
def atN (n s x y k:Nat):Nat:=(s+k % n*x+k / n*y) % n
def Rul.cell (r:Rul) (k:Nat):Nat:=atN r.n r.s0 r.x0 r.y0 k*r.n+atN r.n r.s1 r.x1 r.y1 k
theorem atN_lt {n s x y k:Nat} (h:1≤n):atN n s x y k<n:=Nat.mod_lt _ h
theorem Rul.cell_lt {r:Rul} (h:r.ok) (k:Nat):r.cell k<r.n*r.n:=gcell_lt (atN_lt h.n1) (atN_lt h.n1)
theorem at_parts {n s x y k:Nat} (hn:n≤16) (hn1:1≤n) (hk:k<n*n) (hx:x<n) (hy:y<n):∃p q:Nat,((k % n:Nat):Int)*(x:Int)=(p:Int)∧((k / n:Nat):Int)*(y:Int)=(q:Int)∧p≤256∧q≤256∧((s:Int)+(p:Int)+(q:Int)) % (n:Int)=(atN n s x y k:Int):=by
 have h1:k % n<n:=Nat.mod_lt _ hn1
 have h2:k / n<n:=Nat.div_lt_of_lt_mul hk
 refine ⟨k % n*x,k / n*y,by rw[Int.natCast_mul],by rw[Int.natCast_mul],Nat.mul_le_mul (show k % n≤16 by omega) (show x≤16 by omega),Nat.mul_le_mul (show k / n≤16 by omega) (show y≤16 by omega),?_⟩
 unfold atN
 rw[Int.natCast_emod,Int.natCast_add,Int.natCast_add]
def RulB (b n s0 s1 x0 x1 y0 y1:Nat) (W:World):Prop:=W.heap[b]?=some (.cells #[.int .i64 (n:Int),.int .i64 (s0:Int),.int .i64 (s1:Int),.int .i64 (x0:Int),.int .i64 (x1:Int),.int .i64 (y0:Int),.int .i64 (y1:Int)] 87 (0,0))
theorem RulB.keep {b n s0 s1 x0 x1 y0 y1:Nat} {W W':World} (h:RulB b n s0 s1 x0 x1 y0 y1 W) (hb:Below W.heap.size W W'):RulB b n s0 s1 x0 x1 y0 y1 W':=keepq hb h
theorem RulB.cells {b n s0 s1 x0 x1 y0 y1:Nat} {W:World} (h:RulB b n s0 s1 x0 x1 y0 y1 W):W.cell? ⟨b,0,none⟩=some (.int .i64 (n:Int))∧W.cell? ⟨b,1,none⟩=some (.int .i64 (s0:Int))∧W.cell? ⟨b,2,none⟩=some (.int .i64 (s1:Int))∧W.cell? ⟨b,3,none⟩=some (.int .i64 (x0:Int))∧W.cell? ⟨b,4,none⟩=some (.int .i64 (x1:Int))∧W.cell? ⟨b,5,none⟩=some (.int .i64 (y0:Int))∧W.cell? ⟨b,6,none⟩=some (.int .i64 (y1:Int))∧b<W.heap.size :=
 ⟨q_cell h 0,q_cell h 1,q_cell h 2,q_cell h 3,q_cell h 4,q_cell h 5,q_cell h 6,q_lt h⟩
def AtI (w:World) (bA bR n s0 s1 x0 x1 y0 y1:Nat) (v0 v1:Int) (W:World):Prop :=
 RulB bR n s0 s1 x0 x1 y0 y1 W∧W.heap[bA]?=some (.cells #[.int .i64 v0,.int .i64 v1] 80 (0,0))∧Below w.heap.size w W
theorem rcell_c (r:Rul) (k:Nat) (w:World) (h:r.ok) (hk:k<r.n*r.n) :
  Calls Try.prog 66 #[r.val,.int .i64 ((k+1:Nat):Int)] w fun e w'=>e = .returned (.int .i64 (r.cell k:Int))∧Below w.heap.size w w':=by
 obtain ⟨p0,q0,e1,e2,hp0,hq0,e3⟩:=at_parts (s:=r.s0) h.n2 h.n1 hk h.x0 h.y0
 obtain ⟨p1,q1,f1,f2,hp1,hq1,f3⟩:=at_parts (s:=r.s1) h.n2 h.n1 hk h.x1 h.y1
 have hnn:r.n*r.n≤256:=Nat.mul_le_mul h.n2 h.n2
 have hn1:=h.n1
 have hn2:=h.n2
 have t0:=atN_lt (s:=r.s0) (x:=r.x0) (y:=r.y0) (k:=k) h.n1
 have t1:=atN_lt (s:=r.s1) (x:=r.x1) (y:=r.y1) (k:=k) h.n1
 have hs0:=h.s0
 have hs1:=h.s1
 have HDV:Hid (wrap64 ((k:Int) / (r.n:Int))=((k / r.n:Nat):Int)):=divw (by omega)
 have HMV:Hid ((k:Int) % (r.n:Int)=((k % r.n:Nat):Int)):=modw
 have hkb:k≤256:=by omega
 obtain ⟨c,hc⟩:∃c,c=r.cell k:=⟨_,rfl⟩
 rw[← hc]
 unfold Rul.cell at hc
 unfold Rul.val
 generalize atN r.n r.s0 r.x0 r.y0 k=u0 at e3 t0 hc
 generalize atN r.n r.s1 r.x1 r.y1 k=u1 at f3 t1 hc
 obtain ⟨v,hv⟩:∃v,v=u0*r.n:=⟨_,rfl⟩
 have hv1:(u0:Int)*(r.n:Int)=(v:Int):=by rw[hv,Int.natCast_mul]
 have hv2:v≤256:=by rw[hv];exact Nat.mul_le_mul (show u0≤16 by omega) hn2
 have hv3:Hid ((c:Int)=(v:Int)+(u1:Int)):=by show (c:Int)=(v:Int)+(u1:Int);rw[hc,hv,Int.natCast_add]
 obtain ⟨x,hx⟩:∃x,x=k+1:=⟨_,rfl⟩
 rw[← hx]
 have hxk:(x:Int) - 1=(k:Int):=by omega
 have hx1:1≤x∧x≤257:=by omega
 have hnI:(r.n:Int)≠0:=by omega
 generalize k % r.n=A at e1 f1 HMV
 generalize k / r.n=B at e2 f2 HDV
 clear hc hv hx hk hnn
 obtain ⟨n,s0,s1,x0,x1,y0,y1⟩:=r
 dsimp only at *
 clear h
 go_enter Try.func66,Try.ntmps66
 go_upto_region 1 with fail
 have fsz:(w.alloc (.cells #[.int .i64 (n:Int),.int .i64 (s0:Int),.int .i64 (s1:Int),.int .i64 (x0:Int),.int .i64 (x1:Int),.int .i64 (y0:Int),.int .i64 (y1:Int)] 87)).heap.size=w.heap.size+1:=by simp only[World.size_alloc]
 have fB:Below w.heap.size w (w.alloc (.cells #[.int .i64 (n:Int),.int .i64 (s0:Int),.int .i64 (s1:Int),.int .i64 (x0:Int),.int .i64 (x1:Int),.int .i64 (y0:Int),.int .i64 (y1:Int)] 87)):=(Below.refl _ _).alloc (Nat.le_refl _) _
 have fq0:(w.alloc (.cells #[.int .i64 (n:Int),.int .i64 (s0:Int),.int .i64 (s1:Int),.int .i64 (x0:Int),.int .i64 (x1:Int),.int .i64 (y0:Int),.int .i64 (y1:Int)] 87)).heap[w.heap.size]?=some (.cells #[.int .i64 (n:Int),.int .i64 (s0:Int),.int .i64 (s1:Int),.int .i64 (x0:Int),.int .i64 (x1:Int),.int .i64 (y0:Int),.int .i64 (y1:Int)] 87 (0,0)):=by have h:=World.alloc_heap_new w (.cells #[.int .i64 (n:Int),.int .i64 (s0:Int),.int .i64 (s1:Int),.int .i64 (x0:Int),.int .i64 (x1:Int),.int .i64 (y0:Int),.int .i64 (y1:Int)] 87);exact h
 generalize (w.alloc (.cells #[.int .i64 (n:Int),.int .i64 (s0:Int),.int .i64 (s1:Int),.int .i64 (x0:Int),.int .i64 (x1:Int),.int .i64 (y0:Int),.int .i64 (y1:Int)] 87))=W0 at fsz fB fq0 ⊢
 have hR:RulB w.heap.size n s0 s1 x0 x1 y0 y1 W0:=fq0
 obtain ⟨r0,r1,r2,r3,r4,r5,r6,rl⟩:=hR.cells
 have HR:=Lib.hid hR
 have HE3:=Lib.hid e3
 have HF3:=Lib.hid f3
 have HE1:=Lib.hid e1
 have HE2:=Lib.hid e2
 have HF1:=Lib.hid f1
 have HF2:=Lib.hid f2
 have HV1:=Lib.hid hv1
 clear fsz fq0 hR e3 f3 e1 e2 f1 f2 hv1
 refine wp_region_S (fun w'=>∃u,w'=over (W0) u) [11] [(0,0),(0,1),(0,2),(0,3),(0,4),(0,5),(0,6),(0,7),(0,8),(0,9),(1,10),(2,11)] (by kernel_rfl) (by kernel_rfl) (by exact ⟨_,below_over (by repeat (first|assumption|exact Below.refl _ _|refine keep_drew ?_|refine keep_alloc ?_ _|refine keep_trans ?_ (by assumption)))⟩) ?_
 dsimp only[pickOps,nthOp]
 repeat (first|(refine wpS_skip rfl (fun K hK=>?_);go_big_quiet_op;refine hK _ ?_;clear hK K)|(refine wpS_quiet rfl rfl (fun K hK=>?_);go_big_quiet_op;refine hK _ ?_;clear hK K)|(refine wpS_loud ?_;go_wp2_with (fail);refine ⟨?_,?_⟩;focus (exact ⟨_,below_over (by repeat (first|assumption|exact Below.refl _ _|refine keep_drew ?_|refine keep_alloc ?_ _|refine keep_trans ?_ (by assumption)))⟩)))
 refine wpS_late _ _ _ rfl ?_
 dsimp only[List.map]
 go_wp2_with (fail)
 refine NoPanic.normal ?_
 rw[HMV.out,HDV.out]
 go_upto_region 3 with fail
 have gB:Below W0.heap.size W0 ((W0.alloc (.cells #[.int .i64 0,.int .i64 0] 80)).drew):=keep_drew (keep_alloc (Below.refl _ _) _)
 have gq0:((W0.alloc (.cells #[.int .i64 0,.int .i64 0] 80)).drew).heap[W0.heap.size]?=some (.cells #[.int .i64 0,.int .i64 0] 80 (0,0)):=keepq (keep_drew (Below.refl _ _)) (World.alloc_heap_new _ _)
 generalize ((W0.alloc (.cells #[.int .i64 0,.int .i64 0] 80)).drew)=W2 at gB gq0 ⊢
 have HST:Hid (AtI w W0.heap.size w.heap.size n s0 s1 x0 x1 y0 y1 0 0 W2):=⟨HR.out.keep gB,gq0,keep_trans fB gB⟩
 have HGL:Hid (w.heap.size<W0.heap.size):=rl
 obtain ⟨bA,hbA⟩:∃b,b=W0.heap.size:=⟨_,rfl⟩
 rw[← hbA] at HST HGL ⊢
 clear hbA gB gq0 r0 r1 r2 r3 r4 r5 r6 rl HR fB
 go_wp2_with fail
 go_loopw [8,19] (fun _ iv wr=>∃i:Nat,i≤2∧iv = .int .i64 (i:Int)∧Hid (AtI w bA w.heap.size n s0 s1 x0 x1 y0 y1 (if 0<i then (u0:Int) else 0) (if 1<i then (u1:Int) else 0) wr)) (fun _ iv _=>2 - (intOf iv).toNat)
 case atStart=>exact ⟨0,by omega,rfl,HST⟩
 case round =>
  obtain ⟨i,hi,rfl,hI⟩:=hrel
  clear HST
  have hgl:=HGL.out
  obtain ⟨hR,qA,hbr⟩:=hI.out
  obtain ⟨r0,r1,r2,r3,r4,r5,r6,rl⟩:=hR.cells
  have HR:=Lib.hid hR
  have QA:=Lib.hid qA
  have a0:=q_cell qA 0
  have a1:=q_cell qA 1
  have af0:=q_free qA 0
  have af1:=q_free qA 1
  have al:=q_lt qA
  clear hI hR qA
  match i,hi with
  | 0,_ =>
   have e1:=HE1.out
   have e2:=HE2.out
   go_wp2_with fail
   refine wp_region_S (fun w'=>∃u,w'=over (wr) u) [23] [(0,0),(0,1),(0,2),(0,3),(0,4),(0,5),(0,6),(0,7),(0,8),(0,9),(0,10),(0,11),(0,12),(0,13),(0,14),(0,15),(0,16),(0,17),(0,18),(0,19),(0,20),(0,21),(0,22),(2,23)] (by kernel_rfl) (by kernel_rfl) (by exact ⟨_,below_over (by repeat (first|assumption|exact Below.refl _ _|refine keep_drew ?_|refine keep_alloc ?_ _|refine keep_trans ?_ (by assumption)))⟩) ?_
   dsimp only[pickOps,nthOp]
   repeat (first|(refine wpS_skip rfl (fun K hK=>?_);go_big_quiet_op;refine hK _ ?_;clear hK K)|(refine wpS_quiet rfl rfl (fun K hK=>?_);go_big_quiet_op;refine hK _ ?_;clear hK K))
   refine wpS_late _ _ _ rfl ?_
   dsimp only[List.map]
   go_wp2_with (fail)
   refine NoPanic.normal ?_
   rw[HE3.out]
   have HN:Hid (AtI w bA w.heap.size n s0 s1 x0 x1 y0 y1 (u0:Int) 0 ((wr.setCell ⟨bA,0,none⟩ (.int .i64 (u0:Int))).drew)):=by
    have h1:=hbr.setCell (p:=⟨bA,0,none⟩) (show w.heap.size≤bA by omega) (.int .i64 (u0:Int))
    have h2:=q_set (i:=0) QA.out (.int .i64 (u0:Int))
    have h3:=q_other (i:=0) HR.out (show w.heap.size≠bA by omega) (.int .i64 (u0:Int))
    exact ⟨keepq (keep_drew (Below.refl _ _)) h3,keepq (keep_drew (Below.refl _ _)) h2,h1.drew⟩
   clear a0 a1 af0 af1 al r0 r1 r2 r3 r4 r5 r6 rl QA HR hbr e1 e2
   generalize ((wr.setCell ⟨bA,0,none⟩ (.int .i64 (u0:Int))).drew)=W8 at HN ⊢
   go_wp2_with fail
   go_roundw
   case rel=>exact ⟨1,by omega,by go_num,HN⟩
   case measure=>simp[intOf]
  | 1,_ =>
   have e1:=HF1.out
   have e2:=HF2.out
   go_wp2_with fail
   refine wp_region_S (fun w'=>∃u,w'=over (wr) u) [23] [(0,0),(0,1),(0,2),(0,3),(0,4),(0,5),(0,6),(0,7),(0,8),(0,9),(0,10),(0,11),(0,12),(0,13),(0,14),(0,15),(0,16),(0,17),(0,18),(0,19),(0,20),(0,21),(0,22),(2,23)] (by kernel_rfl) (by kernel_rfl) (by exact ⟨_,below_over (by repeat (first|assumption|exact Below.refl _ _|refine keep_drew ?_|refine keep_alloc ?_ _|refine keep_trans ?_ (by assumption)))⟩) ?_
   dsimp only[pickOps,nthOp]
   repeat (first|(refine wpS_skip rfl (fun K hK=>?_);go_big_quiet_op;refine hK _ ?_;clear hK K)|(refine wpS_quiet rfl rfl (fun K hK=>?_);go_big_quiet_op;refine hK _ ?_;clear hK K))
   refine wpS_late _ _ _ rfl ?_
   dsimp only[List.map]
   go_wp2_with (fail)
   refine NoPanic.normal ?_
   rw[HF3.out]
   have HN:Hid (AtI w bA w.heap.size n s0 s1 x0 x1 y0 y1 (u0:Int) (u1:Int) ((wr.setCell ⟨bA,1,none⟩ (.int .i64 (u1:Int))).drew)):=by
    have h1:=hbr.setCell (p:=⟨bA,1,none⟩) (show w.heap.size≤bA by omega) (.int .i64 (u1:Int))
    have h2:=q_set (i:=1) QA.out (.int .i64 (u1:Int))
    have h3:=q_other (i:=1) HR.out (show w.heap.size≠bA by omega) (.int .i64 (u1:Int))
    exact ⟨keepq (keep_drew (Below.refl _ _)) h3,keepq (keep_drew (Below.refl _ _)) h2,h1.drew⟩
   clear a0 a1 af0 af1 al r0 r1 r2 r3 r4 r5 r6 rl QA HR hbr e1 e2
   generalize ((wr.setCell ⟨bA,1,none⟩ (.int .i64 (u1:Int))).drew)=W8 at HN ⊢
   go_wp2_with fail
   go_roundw
   case rel=>exact ⟨2,by omega,by go_num,HN⟩
   case measure=>simp[intOf]
  | 2,_ =>
   have hv1:=HV1.out
   have b0:wr.cell? ⟨bA,0,none⟩=some (.int .i64 (u0:Int)):=a0
   have b1:wr.cell? ⟨bA,1,none⟩=some (.int .i64 (u1:Int)):=a1
   clear a0 a1
   go_wp2_with fail
   go_ret
   exact ⟨ret_int hv3.out.symm,hbr⟩
end
end Go.Proofs.Ytceombamoikhdaa
