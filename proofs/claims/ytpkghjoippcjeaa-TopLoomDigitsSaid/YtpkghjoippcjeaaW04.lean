/- Texts J23 to J28 of this proof, in one file. -/
import Derived.Test.YtpkghjoippcjeaaW01
import Derived.Test.YtpkghjoippcjeaaW02
import Derived.Test.YtpkghjoippcjeaaW03
import Derived.WideKeyPair
import Derived.DeepKeys4
namespace Go.Proofs.Ytpkghjoippcjeaa
set_option maxRecDepth 100000
set_option maxHeartbeats 16000000
section
open Go Go.RowKit
attribute [local go_sem] over_cell
attribute [local go_sem] Oper.semAt_some
attribute [local go_sem] hold_c0 hold_c1 hold_c2
def madeTo (N:Nat) (s:Nat→Nat→Int) (k:Nat):List Int:=(List.range k).map fun k=>s (k / N) (k % N)
theorem madeTo_len (N:Nat) (s:Nat→Nat→Int) (k:Nat):(madeTo N s k).length=k:=by simp[madeTo]
theorem madeTo_succ (N:Nat) (s:Nat→Nat→Int) {i j:Nat} (hj:j<N):madeTo N s (i*N+j+1)=madeTo N s (i*N+j)++[s i j]:=by
 unfold madeTo
 rw[List.range_succ,List.map_append,List.map_singleton]
 have h1:(i*N+j) / N=i:=by rw[Nat.mul_comm,Nat.mul_add_div (by omega),Nat.div_eq_of_lt hj,Nat.add_zero]
 have h2:(i*N+j) % N=j:=by rw[Nat.mul_comm,Nat.mul_add_mod,Nat.mod_eq_of_lt hj]
 rw[h1,h2]
theorem c3_of {w:World} {b:Nat} {v0 v1 v2:Value} {T:TypeId} (h:w.heap[b]?=some (.cells #[v0,v1,v2] T (0,0))):w.cell? ⟨b,0,none⟩=some v0∧w.cell? ⟨b,1,none⟩=some v1∧w.cell? ⟨b,2,none⟩=some v2∧b<w.heap.size:=⟨q_cell h 0,q_cell h 1,q_cell h 2,q_lt h⟩
theorem Stays.below' {S:Nat→Prop} {w0 w w':World} {B:Nat} (h:Stays S w w') (hB:B≤w.heap.size) (hb:Below B w0 w) (hs:∀k,S k→B≤k):Below B w0 w' :=
 ⟨h.os.trans hb.os,h.tape.trans hb.tape,h.output.trans hb.output,Nat.le_trans hb.size h.size,fun k hk=>(h.block k (Nat.lt_of_lt_of_le hk hB) (fun e=>by have:=hs k e;omega)).trans (hb.block k hk)⟩
def MadeI (w:World) (bR bO L N:Nat) (s:Nat→Nat→Int) (k:Nat) (W:World):Prop :=
 ∃v,W.heap[bR]?=some (.cells #[.int .i64 0,.int .i64 0,.slice none 0 0] 31 (0,0))∧W.heap[bO]?=some (.cells #[.int .i64 (N:Int),.int .i64 (N:Int),v] 31 (0,0))∧W.ownsRow L 3 1 v k ((madeTo N s k).map (Value.int .i64))∧Below w.heap.size w W∧L≤W.heap.size
theorem made_c (N:Nat) (hN:N≤256) (fk:Nat) (fst caps:Array Value) (s:Nat→Nat→Int) (w:World)
  (hcf:∀args w,Sem.run Try.prog (callFunc fk args) w = .ok (.enter fk args) w)
  (hs:∀i j:Nat,i<N→j<N→∀W,Below w.heap.size w W→Calls Try.prog fk (fst++(#[.int .i64 (i:Int),.int .i64 (j:Int)]++caps)) W (fun e w'=>e = .returned (.int .i64 (s i j))∧Below W.heap.size W w')) :
  Calls Try.prog 90 #[.int .i64 (N:Int),.func (.func fk) fst caps] w fun e w'=>∃v,e = .returned (.agg #[.int .i64 (N:Int),.int .i64 (N:Int),v])∧w'.ownsRow w.heap.size 3 1 v (N*N) ((madeTo N s (N*N)).map (Value.int .i64))∧Below w.heap.size w w':=by
 have HS:=Lib.hid hs
 clear hs
 have hN2:N*N≤256*256:=Nat.mul_le_mul hN hN
 obtain ⟨q,hq⟩:∃q,q=N*N:=⟨_,rfl⟩
 have HQ:=Lib.hid hq
 rw[← hq] at hN2 ⊢
 clear hq
 obtain ⟨i0,hi,hz0,hz1,hz2⟩:=info_parts infoInt
 go_enter Try.func90,Try.ntmps90
 go_upto_region 2 with fail
 have fsz:((w.alloc (.cells #[.int .i64 0,.int .i64 0,.slice none 0 0] 31)).alloc (.cells #[.int .i64 (N:Int),.int .i64 (N:Int),.slice none 0 0] 31)).heap.size=w.heap.size+2:=by simp only[World.size_alloc] <;> omega
 have fB:Below w.heap.size w ((w.alloc (.cells #[.int .i64 0,.int .i64 0,.slice none 0 0] 31)).alloc (.cells #[.int .i64 (N:Int),.int .i64 (N:Int),.slice none 0 0] 31)):=((Below.refl _ _).alloc (Nat.le_refl _) _).alloc (by simp only[World.size_alloc];omega) _
 have fq0:((w.alloc (.cells #[.int .i64 0,.int .i64 0,.slice none 0 0] 31)).alloc (.cells #[.int .i64 (N:Int),.int .i64 (N:Int),.slice none 0 0] 31)).heap[w.heap.size]?=some (.cells #[.int .i64 0,.int .i64 0,.slice none 0 0] 31 (0,0)):=by have h:=World.alloc_heap_new w (.cells #[.int .i64 0,.int .i64 0,.slice none 0 0] 31);exact (Below.heap_alloc _ _ _ (by simp only[World.size_alloc];omega)).trans (h)
 have fq1:((w.alloc (.cells #[.int .i64 0,.int .i64 0,.slice none 0 0] 31)).alloc (.cells #[.int .i64 (N:Int),.int .i64 (N:Int),.slice none 0 0] 31)).heap[w.heap.size+1]?=some (.cells #[.int .i64 (N:Int),.int .i64 (N:Int),.slice none 0 0] 31 (0,0)):=by have h:=World.alloc_heap_new (w.alloc (.cells #[.int .i64 0,.int .i64 0,.slice none 0 0] 31)) (.cells #[.int .i64 (N:Int),.int .i64 (N:Int),.slice none 0 0] 31);simp only[World.size_alloc] at h;exact h
 generalize ((w.alloc (.cells #[.int .i64 0,.int .i64 0,.slice none 0 0] 31)).alloc (.cells #[.int .i64 (N:Int),.int .i64 (N:Int),.slice none 0 0] 31))=W0 at fsz fB fq0 fq1 ⊢
 have HSZ:=Lib.hid fsz
 have hszw:w.heap.size+2≤W0.heap.size:=by omega
 have HST:Hid (MadeI w w.heap.size (w.heap.size+1) W0.heap.size N s 0 W0):=⟨_,fq0,fq1,World.ownsRow_nil _ _ _ _,fB,Nat.le_refl _⟩
 clear fsz fq0 fq1 fB
 go_wp2_with fail
 go_loopw [6,7,12,16] (fun _ _ s12 _ wr=>∃i:Nat,i≤N∧s12 = .int .i64 i∧Hid (MadeI w w.heap.size (w.heap.size+1) W0.heap.size N s (i*N) wr)) (fun _ _ s12 _ _=>N - (intOf s12).toNat)
 case atStart=>exact ⟨0,by omega,rfl,by rw[Nat.zero_mul];exact HST⟩
 case round =>
  obtain ⟨i,hi1,rfl,hm⟩:=hrel
  by_cases hlt:i<N
  ·go_wp2_with fail
   go_loopw [7,16] (fun _ s16 wr=>∃j:Nat,j≤N∧s16 = .int .i64 j∧Hid (MadeI w w.heap.size (w.heap.size+1) W0.heap.size N s (i*N+j) wr)) (fun _ s16 _=>N - (intOf s16).toNat)
   case atStart=>exact ⟨0,by omega,rfl,hm⟩
   case round =>
    obtain ⟨j,hj1,rfl,hm2⟩:=hrel
    by_cases hlt2:j<N
    ·obtain ⟨v,q0,q1,hown,hb,hL⟩:=hm2.out
     obtain ⟨av,cv,rfl⟩:=owns_shape hown
     obtain ⟨c0,c1,c2,cl⟩:=c3_of q1
     have Q0:=Lib.hid q0
     have Q1:=Lib.hid q1
     have HO:=Lib.hid hown
     have HB:=Lib.hid hb
     have HL:=Lib.hid hL
     have HC:=Lib.hid (HS.out i j hlt hlt2)
     have hix:i*N+j+1≤65792:=by
      have:i*N≤256*256:=Nat.mul_le_mul (by omega) hN
      omega
     clear q0 q1 hown hb hL
     go_wp2_with fail
     refine wp_region_T (fun w'=>∃u,w'=hold (.cells #[.int .i64 (N:Int),.int .i64 (N:Int),.slice av (i*N+j) cv] 31 (0,0)) (w.heap.size+1) u) [0,2,3,4] [7,8,9] [(0,1),(1,5),(1,6),(2,7),(2,8),(2,9)] (by kernel_rfl) (by kernel_rfl) (by exact ⟨_,hold_of (by first|exact keepq ((Below.refl _ _).alloc (Nat.le_refl _) _) NX1|exact keepq (keep_drew ((Below.refl _ _).alloc (Nat.le_refl _) _)) NX1|exact NX1|exact Q1.out)⟩) ?_
     dsimp only[pickF,nthOp]
     repeat (first|(refine wpF_skip rfl (fun K hK=>?_);go_big_quiet_op;refine hK _ ?_;clear hK K)|(refine wpF_quiet rfl rfl (fun K hK=>?_);go_big_quiet_op;refine hK _ ?_;clear hK K))
     refine wpF_end ?_
     dsimp only[pickOps,nthOp]
     repeat (first|(refine wpS_skip rfl (fun K hK=>?_);go_big_quiet_op;refine hK _ ?_;clear hK K)|(refine wpS_quiet rfl rfl (fun K hK=>?_);go_big_quiet_op;refine hK _ ?_;clear hK K)|(refine wpS_loud ?_;go_wp2_with (first|(refine (HC.out _ (by first|exact HB.out|exact HB.out.drew)).mono ?_;rintro _ w1 ⟨rfl,hb1⟩;have NX1:=keepq hb1 Q1.out;have HO1:=Lib.hid (owns_keep HO.out (fun k e hl=>hb1.block k hl));have HB1:Hid (Below w.heap.size w w1):=(by first|exact keep_trans HB.out hb1|exact keep_trans (keep_drew HB.out) hb1);have hz1w:wr.heap.size≤w1.heap.size:=hb1.size)|(at_builtin;refine wpList_append_any _ rfl _ _ 29 rfl W0.heap.size 3 i0 (.int .i64 0) 8 Try.underlying29 hi hz0 hz1 hz2 rfl (.slice av (i*N+j) cv) _ _ rfl (HO1.out.alloc _) (by have:=HL.out;simp only[World.size_alloc];omega) _ _ _ [.int .i64 (s i j)] rfl rfl (.inl ⟨_,rfl,cell_one_new _ _ _⟩) (by simp[Value.oneCell']) (by unfold maxLen;omega) (by omega) ?_;intro v7 w7 hown7 hst7 hk7;have hst8:Stays (fun k=>(Value.slice av (i*N+j) cv).ownBlock=some k) w1 w7:=((Below.stays ((Below.refl w1.heap.size w1).alloc (Nat.le_refl _) _) _).trans hst7 (fun _ e => .inl e));have hne:¬(Value.slice av (i*N+j) cv).ownBlock=some (w.heap.size+1):=(fun e=>absurd (HO1.out.lt _ e).1 (by omega));have NX7:=hst8.q NX1 hne;have NR7:=hst8.q (keepq hb1 Q0.out) (fun e=>absurd (HO1.out.lt _ e).1 (by omega));obtain ⟨a7,c7,rfl⟩:=owns_shape hown7;clear c0 c1 c2 cl;obtain ⟨c0,c1,c2,cl⟩:=c3_of NX7;have cf:=q_free NX7 2));refine ⟨?_,?_⟩;focus (exact ⟨_,hold_of (by first|exact keepq ((Below.refl _ _).alloc (Nat.le_refl _) _) NX1|exact keepq (keep_drew ((Below.refl _ _).alloc (Nat.le_refl _) _)) NX1|exact NX1|exact Q1.out)⟩)))
     refine wpS_late _ _ _ rfl ?_
     dsimp only[List.map]
     go_wp2_with (first|(refine (HC.out _ (by first|exact HB.out|exact HB.out.drew)).mono ?_;rintro _ w1 ⟨rfl,hb1⟩;have NX1:=keepq hb1 Q1.out;have HO1:=Lib.hid (owns_keep HO.out (fun k e hl=>hb1.block k hl));have HB1:Hid (Below w.heap.size w w1):=(by first|exact keep_trans HB.out hb1|exact keep_trans (keep_drew HB.out) hb1);have hz1w:wr.heap.size≤w1.heap.size:=hb1.size)|(at_builtin;refine wpList_append_any _ rfl _ _ 29 rfl W0.heap.size 3 i0 (.int .i64 0) 8 Try.underlying29 hi hz0 hz1 hz2 rfl (.slice av (i*N+j) cv) _ _ rfl (HO1.out.alloc _) (by have:=HL.out;simp only[World.size_alloc];omega) _ _ _ [.int .i64 (s i j)] rfl rfl (.inl ⟨_,rfl,cell_one_new _ _ _⟩) (by simp[Value.oneCell']) (by unfold maxLen;omega) (by omega) ?_;intro v7 w7 hown7 hst7 hk7;have hst8:Stays (fun k=>(Value.slice av (i*N+j) cv).ownBlock=some k) w1 w7:=((Below.stays ((Below.refl w1.heap.size w1).alloc (Nat.le_refl _) _) _).trans hst7 (fun _ e => .inl e));have hne:¬(Value.slice av (i*N+j) cv).ownBlock=some (w.heap.size+1):=(fun e=>absurd (HO1.out.lt _ e).1 (by omega));have NX7:=hst8.q NX1 hne;have NR7:=hst8.q (keepq hb1 Q0.out) (fun e=>absurd (HO1.out.lt _ e).1 (by omega));obtain ⟨a7,c7,rfl⟩:=owns_shape hown7;clear c0 c1 c2 cl;obtain ⟨c0,c1,c2,cl⟩:=c3_of NX7;have cf:=q_free NX7 2))
     refine NoPanic.normal ?_
     have NX8:=q_set (i:=2) NX7 (.slice a7 (i*N+j+1) c7)
     have NR8:=q_other (i:=2) NR7 (show w.heap.size≠w.heap.size+1 by omega) (.slice a7 (i*N+j+1) c7)
     have hown8:=ownsRow_setCell_other hown7 (a:=⟨w.heap.size+1,2,none⟩) (fun e=>absurd (hown7.lt _ e).1 (show ¬W0.heap.size≤w.heap.size+1 by omega)) (.slice a7 (i*N+j+1) c7)
     have hbw:Below w.heap.size w w7:=hst8.below' HB1.out.size HB1.out (fun k e=>by have:=(HO1.out.lt _ e).1;omega)
     have hbw8:=hbw.setCell (p:=⟨w.heap.size+1,2,none⟩) (show w.heap.size≤w.heap.size+1 by omega) (.slice a7 (i*N+j+1) c7)
     have hsz8:W0.heap.size≤(w7.setCell ⟨w.heap.size+1,2,none⟩ (.slice a7 (i*N+j+1) c7)).heap.size:=by
      have h1:=HB.out.size
      have h2:=hst8.size
      have h3:=HL.out
      have h4:wr.heap.size≤w1.heap.size:=hb1.size
      have h5:=(KeepsOthers.setCell w7 ⟨w.heap.size+1,2,none⟩ (.slice a7 (i*N+j+1) c7)).size
      omega
     clear c0 c1 c2 cl cf NX7 NR7 hown7 hst7 hst8 hbw
     generalize (w7.setCell ⟨w.heap.size+1,2,none⟩ (.slice a7 (i*N+j+1) c7))=W8 at NX8 NR8 hown8 hbw8 hsz8 ⊢
     go_wp2_with fail
     go_roundw
     case rel=>exact ⟨j+1,by omega,by go_num,_,NR8,NX8,by rw[← Nat.add_assoc,madeTo_succ N s hlt2,List.map_append];exact hown8,hbw8,hsz8⟩
     case measure=>simp[intOf];omega
    ·have e:j=N:=by omega
     subst e
     go_wp2
     go_roundw
     case rel=>exact ⟨i+1,by omega,by go_num,by rw[Nat.add_mul,Nat.one_mul];exact hm2⟩
     case measure=>simp[intOf];omega
  ·have e:i=N:=by omega
   subst e
   rw[← HQ.out] at hm
   obtain ⟨v,q0,q1,hown,hb,hL⟩:=hm.out
   obtain ⟨c0,c1,c2,cl⟩:=c3_of q1
   obtain ⟨d0,d1,d2,dl⟩:=c3_of q0
   have d0f:=q_free q0 0
   have d1f:=q_free q0 1
   have d2f:=q_free q0 2
   obtain ⟨av,cv,rfl⟩:=owns_shape hown
   clear q1
   go_wp2_with fail
   have g0:=q_set (i:=2) (q_set (i:=1) (q_set (i:=0) q0 (.int .i64 (i:Int))) (.int .i64 (i:Int))) (.slice av q cv)
   have hoW:=ownsRow_setCell_other (ownsRow_setCell_other (ownsRow_setCell_other hown (a:=⟨w.heap.size,0,none⟩) (fun e=>absurd (hown.lt _ e).1 (show ¬W0.heap.size≤w.heap.size by omega)) (.int .i64 (i:Int))) (a:=⟨w.heap.size,1,none⟩) (fun e=>absurd (hown.lt _ e).1 (show ¬W0.heap.size≤w.heap.size by omega)) (.int .i64 (i:Int))) (a:=⟨w.heap.size,2,none⟩) (fun e=>absurd (hown.lt _ e).1 (show ¬W0.heap.size≤w.heap.size by omega)) (.slice av q cv)
   have hbW:=((hb.setCell (p:=⟨w.heap.size,0,none⟩) (Nat.le_refl _) (.int .i64 (i:Int))).setCell (p:=⟨w.heap.size,1,none⟩) (Nat.le_refl _) (.int .i64 (i:Int))).setCell (p:=⟨w.heap.size,2,none⟩) (Nat.le_refl _) (.slice av q cv)
   obtain ⟨k0,k1,k2,kl⟩:=c3_of g0
   refine bodyPost_ret (v := .agg #[.int .i64 (i:Int),.int .i64 (i:Int),.slice av q cv]) ?_ rfl ⟨_,rfl,owns_base hoW (by omega),hbW⟩
   simp[results,Try.f90,go_sem,k0,k1,k2]
end
section
open Go Go.RowKit
attribute [local go_sem] over_cell
attribute [local go_sem] Oper.semAt_some
theorem divw {k C:Nat} (hk:k≤1000000):wrap64 ((k:Int) / (C:Int))=((k / C:Nat):Int):=by
 rw[← Int.natCast_ediv]
 have:k / C≤k:=Nat.div_le_self _ _
 generalize k / C=q at this ⊢
 unfold wrap64
 omega
theorem modw {k C:Nat}:(k:Int) % (C:Int)=((k % C:Nat):Int):=(Int.natCast_emod _ _).symm
end
section
open Go Go.RowKit
attribute [local go_sem] over_cell
attribute [local go_sem] Oper.semAt_some
theorem sq_wrap {N:Nat} (h:N≤16):wrap64 ((N:Int)*(N:Int))=((N*N:Nat):Int):=by
 rw[← Int.natCast_mul]
 have h1:N*N≤16*16:=Nat.mul_le_mul h h
 generalize N*N=q at h1 ⊢
 unfold wrap64
 omega
theorem sqB_dims {r C:Int} {cs:List Int} (h:sqB r C cs=true):∃N:Nat,r=(N:Int)∧C=(N:Int)∧1≤N∧N≤16∧cs.length=N*N:=by
 unfold sqB at h
 simp only[Bool.and_eq_true,decide_eq_true_eq] at h
 obtain ⟨⟨⟨h1,h2⟩,h3⟩,h4⟩:=h
 refine ⟨r.toNat,by omega,by omega,by omega,by omega,?_⟩
 subst h1
 obtain ⟨N,rfl⟩:=Int.eq_ofNat_of_zero_le (show 0≤r by omega)
 rw[← Int.natCast_mul] at h4
 rw[show ((N:Int)).toNat=N from rfl]
 exact Int.ofNat.inj h4
end
section
def bitsOf:List Int→Nat
 | []=>0
 | x :: l=>bitsOf l ||| 1 <<< x.toNat
theorem bitsOf_bit {l:List Int} (h:∀y,y∈l→0≤y) {x:Nat}:(bitsOf l).testBit x=true↔(x:Int)∈l:=by
 induction l with
 | nil=>simp[bitsOf]
 | cons y l ih =>
  have h0:=h y List.mem_cons_self
  rw[bitsOf,Nat.testBit_or,Bool.or_eq_true,ih (fun z hz=>h z (List.mem_cons_of_mem _ hz)),Nat.one_shiftLeft,Nat.testBit_two_pow,decide_eq_true_eq,List.mem_cons]
  constructor
  ·rintro (h1|h1)
   ·exact Or.inr h1
   ·exact Or.inl (by omega)
  ·rintro (h1|h1)
   ·exact Or.inr (by omega)
   ·exact Or.inl h1
theorem bitsOf_snoc {l:List Int} {x:Int}:bitsOf (l++[x])=bitsOf l ||| 1 <<< x.toNat:=by
 induction l with
 | nil=>simp[bitsOf]
 | cons y l ih =>
  rw[List.cons_append,bitsOf,bitsOf,ih,Nat.or_assoc,Nat.or_assoc,Nat.or_comm (1 <<< x.toNat)]
theorem bitsOf_lt {l:List Int} {n:Nat} (h:∀y,y∈l→0≤y∧y<(n:Int)):bitsOf l<2 ^ n:=by
 apply Nat.lt_pow_two_of_testBit
 intro i hi
 rw[Bool.eq_false_iff]
 intro e
 have:=h _ ((bitsOf_bit (fun y hy=>(h y hy).1)).1 e)
 omega
end
section
end
section
theorem nodupI_le:∀{l m:List Int},l.Nodup→(∀x,x∈l→x∈m)→l.length≤m.length
 | [],_,_,_=>Nat.zero_le _
 | x :: l,m,hn,hs=>by
  rw[List.nodup_cons] at hn
  have hx:=hs x List.mem_cons_self
  have h:=nodupI_le (l:=l) (m:=m.erase x) hn.2 (fun y hy=>(List.mem_erase_of_ne (fun e=>hn.1 (by rw[← e];exact hy))).2 (hs y (List.mem_cons_of_mem _ hy)))
  rw[List.length_erase_of_mem hx] at h
  have:=List.length_pos_of_mem hx
  simp only[List.length_cons]
  omega
end
section
end
section
end
section
theorem lineB_comm {C c d:Nat}:lineB C c d=lineB C d c:=by
 unfold lineB
 rw[Bool.eq_iff_iff]
 simp only[Bool.or_eq_true,beq_iff_eq]
 constructor
 ·rintro (h|h)
  ·exact Or.inl h.symm
  ·exact Or.inr h.symm
 ·rintro (h|h)
  ·exact Or.inl h.symm
  ·exact Or.inr h.symm
def OnceP (C:Nat) (cs:List Int):Prop:=∀c d,c<cs.length→d<cs.length→c≠d→lineB C c d=true→cs[c]?.getD 0=cs[d]?.getD 0→cs[c]?.getD 0<0
theorem once_iff {C:Nat} {cs:List Int}:twiceB C cs=false↔OnceP C cs:=by
 rw[Bool.eq_false_iff,Ne,twiceB_true]
 constructor
 ·intro h c d hc hd hcd hl he
  by_cases h0:0≤cs[c]?.getD 0
  ·exfalso
   rcases Nat.lt_or_gt_of_ne hcd with h1|h1
   ·exact h ⟨d,c,hd,h1,by rw[lineB_comm];exact hl,he.symm,by omega⟩
   ·exact h ⟨c,d,hc,h1,hl,he,h0⟩
  ·omega
 ·rintro h ⟨c,d,hc,hd,hl,he,h0⟩
  have:=h c d hc (by omega) (by omega) hl he
  omega
end
section
def pairEq (cs ds:List Int) (c d:Nat):Bool:=cs[c]?.getD 0==cs[d]?.getD 0&&ds[c]?.getD 0==ds[d]?.getD 0
def meetAt (cs ds:List Int) (d:Nat):Option Nat:=(List.range d).find? fun c=>pairEq cs ds c d
def meetR (cs ds:List Int):Option (Nat × Nat):=(List.range cs.length).findSome? fun d=>(meetAt cs ds d).map fun c=>(c,d)
def Ortho (cs ds:List Int):Prop:=∀c d,c<d→d<cs.length→pairEq cs ds c d=false
theorem meetAt_none {cs ds:List Int} {d:Nat}:meetAt cs ds d=none↔∀c,c<d→pairEq cs ds c d=false:=by
 unfold meetAt
 rw[List.find?_eq_none]
 constructor
 ·intro h c hc;have:=h c (List.mem_range.2 hc);simpa using this
 ·intro h c hc;rw[List.mem_range] at hc;rw[h c hc];decide
theorem meetR_none {cs ds:List Int}:meetR cs ds=none↔Ortho cs ds:=by
 unfold meetR
 rw[List.findSome?_eq_none_iff]
 constructor
 ·intro h c d hc hd
  have h1:=h d (List.mem_range.2 hd)
  rw[Option.map_eq_none_iff,meetAt_none] at h1
  exact h1 c hc
 ·intro h d hd
  rw[List.mem_range] at hd
  rw[Option.map_eq_none_iff,meetAt_none]
  exact fun c hc=>h c d hc hd
theorem findSome_first {α:Type} {g:Nat→Option α} {d:Nat} {x:α}:∀{n:Nat},d<n→(∀i,i<d→g i=none)→g d=some x→(List.range n).findSome? g=some x:=by
 intro n
 induction n with
 | zero=>intro h;omega
 | succ n ih =>
  intro hd hb hx
  rw[List.range_succ,List.findSome?_append]
  by_cases e:d=n
  ·subst e
   have:(List.range d).findSome? g=none:=List.findSome?_eq_none_iff.2 (fun i hi=>hb i (List.mem_range.1 hi))
   rw[this]
   simp[hx]
  ·rw[ih (by omega) hb hx]
   rfl
theorem full_mem {n:Nat} {l:List Int} (hn:l.Nodup) (hl:l.length=n) (hr:∀y,y∈l→0≤y∧y<(n:Int)) {x:Int} (h0:0≤x) (h1:x<(n:Int)):x∈l:=by
 by_cases hm:x∈l
 ·exact hm
 ·exfalso
  have hx:x∈(List.range n).map fun (i:Nat)=>(i:Int):=List.mem_map.2 ⟨x.toNat,List.mem_range.2 (by omega),by omega⟩
  have h2:=nodupI_le (l:=l) (m:=((List.range n).map fun (i:Nat)=>(i:Int)).erase x) hn (fun y hy=>by
   have h3:=hr y hy
   have h4:y≠x:=fun e=>hm (e▸hy)
   exact (List.mem_erase_of_ne h4).2 (List.mem_map.2 ⟨y.toNat,List.mem_range.2 (by omega),by omega⟩))
  rw[List.length_erase_of_mem hx,List.length_map,List.length_range] at h2
  omega
theorem gcell_div {n i j:Nat} (hj:j<n):(i*n+j) / n=i∧(i*n+j) % n=j:=by
 constructor
 ·rw[Nat.add_comm,Nat.add_mul_div_right _ _ (by omega),Nat.div_eq_of_lt hj,Nat.zero_add]
 ·rw[Nat.add_comm,Nat.add_mul_mod_self_right,Nat.mod_eq_of_lt hj]
theorem gcell_lt {n i j:Nat} (hi:i<n) (hj:j<n):i*n+j<n*n:=by
 have:=Nat.mul_le_mul_right n (show i+1≤n by omega)
 rw[Nat.add_mul,Nat.one_mul] at this
 omega
theorem Latin.get {n:Nat} {cs:List Int} (L:Latin n cs) {c:Nat} (hc:c<n*n):0≤cs[c]?.getD 0∧cs[c]?.getD 0<(n:Int):=by
 rw[List.getElem?_eq_getElem (by rw[L.len];exact hc),Option.getD_some]
 exact L.num _ (List.getElem_mem _)
end
section
open Go Go.RowKit
attribute [local go_sem] over_cell
attribute [local go_sem] Oper.semAt_some
def GridE (w:World) (r C:Int) (cs:List Int) (er:Int) (e:Ending) (w':World):Prop :=
 ∃a c,e = .returned (.tuple #[.agg #[.int .i64 r,.int .i64 C,.slice a cs.length c],.int .i64 er])∧w'.ownsRow w.heap.size 3 1 (.slice a cs.length c) cs.length (cs.map (Value.int .i64))∧Below w.heap.size w w'
def GridM (w:World) (r C:Int) (cs:List Int) (e:Ending) (w':World):Prop :=
 ∃a c,e = .returned (.agg #[.int .i64 r,.int .i64 C,.slice a cs.length c])∧w'.ownsRow w.heap.size 3 1 (.slice a cs.length c) cs.length (cs.map (Value.int .i64))∧Below w.heap.size w w'
section
variable {W:World} {b:Nat} {u0 u1 u2 x0 x1 x2:Value} {T:TypeId}
theorem st3_q (q:W.heap[b]?=some (.cells #[u0,u1,u2] T (0,0))):(((W.setCell ⟨b,0,none⟩ x0).setCell ⟨b,1,none⟩ x1).setCell ⟨b,2,none⟩ x2).heap[b]?=some (.cells #[x0,x1,x2] T (0,0)):=q_set (i:=2) (q_set (i:=1) (q_set (i:=0) q x0) x1) x2
theorem st3_own {B n:Nat} {e:TypeId} {v:Value} {xs:List Value} (h:W.ownsRow B e 1 v n xs) (hb:v.ownBlock≠some b):(((W.setCell ⟨b,0,none⟩ x0).setCell ⟨b,1,none⟩ x1).setCell ⟨b,2,none⟩ x2).ownsRow B e 1 v n xs :=
 ownsRow_setCell_other (ownsRow_setCell_other (ownsRow_setCell_other h (a:=⟨b,0,none⟩) hb x0) (a:=⟨b,1,none⟩) hb x1) (a:=⟨b,2,none⟩) hb x2
theorem st3_below {B:Nat} {w:World} (h:Below B w W) (hb:B≤b):Below B w (((W.setCell ⟨b,0,none⟩ x0).setCell ⟨b,1,none⟩ x1).setCell ⟨b,2,none⟩ x2) :=
 ((h.setCell (p:=⟨b,0,none⟩) hb x0).setCell (p:=⟨b,1,none⟩) hb x1).setCell (p:=⟨b,2,none⟩) hb x2
end
theorem c1_of {w:World} {b:Nat} {v0:Value} {T:TypeId} (h:w.heap[b]?=some (.cells #[v0] T (0,0))):w.cell? ⟨b,0,none⟩=some v0∧w.frozen? ⟨b,0,none⟩=false∧b<w.heap.size:=⟨q_cell h 0,q_free h 0,q_lt h⟩
theorem f3_of {w:World} {b:Nat} {v0 v1 v2:Value} {T:TypeId} (h:w.heap[b]?=some (.cells #[v0,v1,v2] T (0,0))):w.frozen? ⟨b,0,none⟩=false∧w.frozen? ⟨b,1,none⟩=false∧w.frozen? ⟨b,2,none⟩=false:=⟨q_free h 0,q_free h 1,q_free h 2⟩
theorem made_g (N:Nat) (hN:N≤256) (fk:Nat) (fst caps:Array Value) (s:Nat→Nat→Int) (cs:List Int) (w:World) (hcs:cs=madeTo N s (N*N))
  (hcf:∀args w,Sem.run Try.prog (callFunc fk args) w = .ok (.enter fk args) w)
  (hs:∀i j:Nat,i<N→j<N→∀W,Below w.heap.size w W→Calls Try.prog fk (fst++(#[.int .i64 (i:Int),.int .i64 (j:Int)]++caps)) W (fun e w'=>e = .returned (.int .i64 (s i j))∧Below W.heap.size W w')) :
  Calls Try.prog 90 #[.int .i64 (N:Int),.func (.func fk) fst caps] w (GridM w (N:Int) (N:Int) cs):=by
 refine (made_c N hN fk fst caps s w hcf hs).mono ?_
 rintro e w' ⟨v,rfl,hown,hb⟩
 obtain ⟨a,c,rfl⟩:=owns_shape hown
 have hl:cs.length=N*N:=by rw[hcs,madeTo_len]
 refine ⟨a,c,by rw[hl],?_,hb⟩
 rw[hl,hcs];exact hown
end
section
open Go Go.RowKit
attribute [local go_sem] over_cell
attribute [local go_sem] Oper.semAt_some
structure Sq (n:Nat) (cs:List Int):Prop where
 n1:1≤n
 n2:n≤16
 len:cs.length=n*n
 num:∀k:Nat,0≤cs[k]?.getD 0∧cs[k]?.getD 0<(n:Int)
theorem Latin.sq {n:Nat} {cs:List Int} (L:Latin n cs):Sq n cs:=⟨L.pos,L.le,L.len,fun k=>by
 by_cases h:k<n*n
 ·exact L.get h
 ·rw[List.getElem?_eq_none (by rw[L.len];omega)]
  have:=L.pos
  exact ⟨Int.le_refl _,by show (0:Int)<n;omega⟩⟩
end
section
open Go Go.RowKit Go.Maps Go.WideMaps
theorem laidOut4:laidOutB Try.prog=true:=by kernel_rfl
theorem pairRow:(22:TypeId)<Try.prog.types.size:=of_decide_eq_true (by kernel_rfl)
theorem pairArr:ArrKey Try.prog 22 3 2:=⟨Try.underlying22,by kernel_rfl,by kernel_rfl,by kernel_rfl⟩
theorem pairWide:(match Try.prog.underlying 22 with|some (.array _ _)|some (.struct _)=>true|_=>false)=true:=by rw[Try.underlying22]
theorem pairKeyed:Keyed Try.prog 22:=Keyed.of_law (deep_law_laid laidOut4 (m:=2) (by omega) pairRow (by kernel_rfl) pairWide)
abbrev Pr:={p:Int × Int // (Lit.int .i64 p.1).wf=true∧(Lit.int .i64 p.2).wf=true}
def kapP (p:Pr):Lit := .string (keyBytes [.int .i64 p.1.1,.int .i64 p.1.2])
theorem keyP (p:Pr):keyOf Try.prog 22 (.agg #[.int .i64 p.1.1,.int .i64 p.1.2])=some (kapP p):=keyOf_pair pairArr Try.underlying3 ⟨_,rfl⟩ p.2.1 p.2.2
theorem injP (x y:Pr) (h:kapP x=kapP y):x=y:=by
 have h1:=keyP x
 have h2:=keyP y
 rw[h] at h1
 have:=pairKeyed.inj h1 h2
 simp only[Value.agg.injEq,Array.mk.injEq,List.cons.injEq,Value.int.injEq,and_true,true_and] at this
 exact Subtype.ext (Prod.ext this.1 this.2)
theorem wf64 {x:Int} (h0 : -1000000000000≤x) (h1:x≤1000000000000):(Lit.int .i64 x).wf=true:=by
 show (decide (IntKind.i64.min≤x)&&decide (x≤IntKind.i64.max))=true
 rw[Bool.and_eq_true,decide_eq_true_eq,decide_eq_true_eq]
 exact ⟨Int.le_trans (by decide) h0,Int.le_trans h1 (by decide)⟩
theorem zeroInt (w:World):(zeroValue 3).run Try.prog w = .ok (.int .i64 0) w:=by kernel_rfl
end
end Go.Proofs.Ytpkghjoippcjeaa
