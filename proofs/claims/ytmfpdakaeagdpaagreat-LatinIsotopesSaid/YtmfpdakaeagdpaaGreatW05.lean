/- Texts J23 to J10 of this proof, in one file. -/
import Derived.Test.YtmfpdakaeagdpaaGreatW01
import Derived.Test.YtmfpdakaeagdpaaGreatW02
import Derived.Test.YtmfpdakaeagdpaaGreatW03
import Derived.Test.YtmfpdakaeagdpaaGreatW04
import Derived.Below
import Derived.BigFrame
import Derived.BigQuiet
import Derived.Deep.CutBlock
import Derived.Deep.CutRange
import Derived.Deep.LoopGhost
import Derived.Deep.Quiet
import Derived.Deep.RegionHeld3
import Derived.KernelRfl
import Derived.Laws.BitsAllLaws
import Derived.Lib.Hide
import Derived.Lib.SliceRun
import Derived.LoopIn
import Derived.LoopNIn
import Derived.Maps.AppendAt
import Derived.Maps.OwnIn
import Derived.OneCell
import Derived.OrdersHeld
import Derived.OwnWalkIn
import Derived.RangeFuncBound
import Derived.RangeFuncCalls
import Derived.RangeFuncLeaves
import Derived.RangeFuncNested
import Derived.Shelf.Abstract
import Derived.Still
import Derived.TacticsInMore
import Derived.Test.YtmfpdakaeagdpaaGreatProg
import Derived.WalkKit
import Derived.WalkLawsBesides
import Derived.WalkSpells
namespace Go.Proofs.YtmfpdakaeagdpaaGreat
set_option maxRecDepth 100000
set_option maxHeartbeats 16000000
section
open Go Go.RowKit
attribute [local go_sem] over_cell
attribute [local go_sem] Oper.semAt_some
attribute [local go_sem] hold_c0 hold_c1 hold_c2
def madeTo (N:Nat) (s:Nat→Nat→Int) (k:Nat):List Int:=(List.range k).map fun k=>s (k / N) (k % N)
theorem madeTo_len (N:Nat) (s:Nat→Nat→Int) (k:Nat):(madeTo N s k).length=k:=by simp[madeTo]
theorem madeTo_succ (N:Nat) (s:Nat→Nat→Int) {i j:Nat} (hj:j<N):madeTo N s (i*N+j+1)=madeTo N s (i*N+j)++[s i j]:=by
 unfold madeTo
 rw[List.range_succ,List.map_append,List.map_singleton]
 have h1:(i*N+j) / N=i:=by rw[Nat.mul_comm,Nat.mul_add_div (by omega),Nat.div_eq_of_lt hj,Nat.add_zero]
 have h2:(i*N+j) % N=j:=by rw[Nat.mul_comm,Nat.mul_add_mod,Nat.mod_eq_of_lt hj]
 rw[h1,h2]
theorem c3_of {w:World} {b:Nat} {v0 v1 v2:Value} {T:TypeId} (h:w.heap[b]?=some (.cells #[v0,v1,v2] T (0,0))):w.cell? ⟨b,0,none⟩=some v0∧w.cell? ⟨b,1,none⟩=some v1∧w.cell? ⟨b,2,none⟩=some v2∧b<w.heap.size:=⟨q_cell h 0,q_cell h 1,q_cell h 2,q_lt h⟩
theorem Stays.below' {S:Nat→Prop} {w0 w w':World} {B:Nat} (h:Stays S w w') (hB:B≤w.heap.size) (hb:Below B w0 w) (hs:∀k,S k→B≤k):Below B w0 w' :=
 ⟨h.os.trans hb.os,h.tape.trans hb.tape,h.output.trans hb.output,Nat.le_trans hb.size h.size,fun k hk=>(h.block k (Nat.lt_of_lt_of_le hk hB) (fun e=>by have:=hs k e;omega)).trans (hb.block k hk)⟩
def MadeI (w:World) (bR bO L N:Nat) (s:Nat→Nat→Int) (k:Nat) (W:World):Prop :=
 ∃v,W.heap[bR]?=some (.cells #[.int .i64 0,.int .i64 0,.slice none 0 0] 24 (0,0))∧W.heap[bO]?=some (.cells #[.int .i64 (N:Int),.int .i64 (N:Int),v] 24 (0,0))∧W.ownsRow L 3 1 v k ((madeTo N s k).map (Value.int .i64))∧Below w.heap.size w W∧L≤W.heap.size
theorem made_c (N:Nat) (hN:N≤256) (fk:Nat) (fst caps:Array Value) (s:Nat→Nat→Int) (w:World)
  (hcf:∀args w,Sem.run Tryz.prog (callFunc fk args) w = .ok (.enter fk args) w)
  (hs:∀i j:Nat,i<N→j<N→∀W,Below w.heap.size w W→Calls Tryz.prog fk (fst++(#[.int .i64 (i:Int),.int .i64 (j:Int)]++caps)) W (fun e w'=>e = .returned (.int .i64 (s i j))∧Below W.heap.size W w')) :
  Calls Tryz.prog 94 #[.int .i64 (N:Int),.func (.func fk) fst caps] w fun e w'=>∃v,e = .returned (.agg #[.int .i64 (N:Int),.int .i64 (N:Int),v])∧w'.ownsRow w.heap.size 3 1 v (N*N) ((madeTo N s (N*N)).map (Value.int .i64))∧Below w.heap.size w w':=by
 have HS:=Lib.hid hs
 clear hs
 have hN2:N*N≤256*256:=Nat.mul_le_mul hN hN
 obtain ⟨q,hq⟩:∃q,q=N*N:=⟨_,rfl⟩
 have HQ:=Lib.hid hq
 rw[← hq] at hN2 ⊢
 clear hq
 obtain ⟨i0,hi,hz0,hz1,hz2⟩:=info_parts infoInt
 go_enter Tryz.func94,Tryz.ntmps94
 go_upto_region 2 with fail
 have fsz:((w.alloc (.cells #[.int .i64 0,.int .i64 0,.slice none 0 0] 24)).alloc (.cells #[.int .i64 (N:Int),.int .i64 (N:Int),.slice none 0 0] 24)).heap.size=w.heap.size+2:=by simp only[World.size_alloc] <;> omega
 have fB:Below w.heap.size w ((w.alloc (.cells #[.int .i64 0,.int .i64 0,.slice none 0 0] 24)).alloc (.cells #[.int .i64 (N:Int),.int .i64 (N:Int),.slice none 0 0] 24)):=((Below.refl _ _).alloc (Nat.le_refl _) _).alloc (by simp only[World.size_alloc];omega) _
 have fq0:((w.alloc (.cells #[.int .i64 0,.int .i64 0,.slice none 0 0] 24)).alloc (.cells #[.int .i64 (N:Int),.int .i64 (N:Int),.slice none 0 0] 24)).heap[w.heap.size]?=some (.cells #[.int .i64 0,.int .i64 0,.slice none 0 0] 24 (0,0)):=by have h:=World.alloc_heap_new w (.cells #[.int .i64 0,.int .i64 0,.slice none 0 0] 24);exact (Below.heap_alloc _ _ _ (by simp only[World.size_alloc];omega)).trans (h)
 have fq1:((w.alloc (.cells #[.int .i64 0,.int .i64 0,.slice none 0 0] 24)).alloc (.cells #[.int .i64 (N:Int),.int .i64 (N:Int),.slice none 0 0] 24)).heap[w.heap.size+1]?=some (.cells #[.int .i64 (N:Int),.int .i64 (N:Int),.slice none 0 0] 24 (0,0)):=by have h:=World.alloc_heap_new (w.alloc (.cells #[.int .i64 0,.int .i64 0,.slice none 0 0] 24)) (.cells #[.int .i64 (N:Int),.int .i64 (N:Int),.slice none 0 0] 24);simp only[World.size_alloc] at h;exact h
 generalize ((w.alloc (.cells #[.int .i64 0,.int .i64 0,.slice none 0 0] 24)).alloc (.cells #[.int .i64 (N:Int),.int .i64 (N:Int),.slice none 0 0] 24))=W0 at fsz fB fq0 fq1 ⊢
 have HSZ:=Lib.hid fsz
 have hszw:w.heap.size+2≤W0.heap.size:=by omega
 have HST:Hid (MadeI w w.heap.size (w.heap.size+1) W0.heap.size N s 0 W0):=⟨_,fq0,fq1,World.ownsRow_nil _ _ _ _,fB,Nat.le_refl _⟩
 clear fsz fq0 fq1 fB
 go_wp2_with fail
 go_loopw [6,7,12,16] (fun _ _ s12 _ wr=>∃i:Nat,i≤N∧s12 = .int .i64 i∧Hid (MadeI w w.heap.size (w.heap.size+1) W0.heap.size N s (i*N) wr)) (fun _ _ s12 _ _=>N - (intOf s12).toNat)
 case atStart=>exact ⟨0,by omega,rfl,by rw[Nat.zero_mul];exact HST⟩
 case round =>
  obtain ⟨i,hi1,rfl,hm⟩:=hrel
  by_cases hlt:i<N
  ·go_wp2_with fail
   go_loopw [7,16] (fun _ s16 wr=>∃j:Nat,j≤N∧s16 = .int .i64 j∧Hid (MadeI w w.heap.size (w.heap.size+1) W0.heap.size N s (i*N+j) wr)) (fun _ s16 _=>N - (intOf s16).toNat)
   case atStart=>exact ⟨0,by omega,rfl,hm⟩
   case round =>
    obtain ⟨j,hj1,rfl,hm2⟩:=hrel
    by_cases hlt2:j<N
    ·obtain ⟨v,q0,q1,hown,hb,hL⟩:=hm2.out
     obtain ⟨av,cv,rfl⟩:=owns_shape hown
     obtain ⟨c0,c1,c2,cl⟩:=c3_of q1
     have Q0:=Lib.hid q0
     have Q1:=Lib.hid q1
     have HO:=Lib.hid hown
     have HB:=Lib.hid hb
     have HL:=Lib.hid hL
     have HC:=Lib.hid (HS.out i j hlt hlt2)
     have hix:i*N+j+1≤65792:=by
      have:i*N≤256*256:=Nat.mul_le_mul (by omega) hN
      omega
     clear q0 q1 hown hb hL
     go_wp2_with fail
     refine wp_region_T (fun w'=>∃u,w'=hold (.cells #[.int .i64 (N:Int),.int .i64 (N:Int),.slice av (i*N+j) cv] 24 (0,0)) (w.heap.size+1) u) [0,2,3,4] [7,8,9] [(0,1),(1,5),(1,6),(2,7),(2,8),(2,9)] (by kernel_rfl) (by kernel_rfl) (by exact ⟨_,hold_of (by first|exact keepq ((Below.refl _ _).alloc (Nat.le_refl _) _) NX1|exact keepq (keep_drew ((Below.refl _ _).alloc (Nat.le_refl _) _)) NX1|exact NX1|exact Q1.out)⟩) ?_
     dsimp only[pickF,nthOp]
     repeat (first|(refine wpF_skip rfl (fun K hK=>?_);go_big_quiet_op;refine hK _ ?_;clear hK K)|(refine wpF_quiet rfl rfl (fun K hK=>?_);go_big_quiet_op;refine hK _ ?_;clear hK K))
     refine wpF_end ?_
     dsimp only[pickOps,nthOp]
     repeat (first|(refine wpS_skip rfl (fun K hK=>?_);go_big_quiet_op;refine hK _ ?_;clear hK K)|(refine wpS_quiet rfl rfl (fun K hK=>?_);go_big_quiet_op;refine hK _ ?_;clear hK K)|(refine wpS_loud ?_;go_wp2_with (first|(refine (HC.out _ (by first|exact HB.out|exact HB.out.drew)).mono ?_;rintro _ w1 ⟨rfl,hb1⟩;have NX1:=keepq hb1 Q1.out;have HO1:=Lib.hid (owns_keep HO.out (fun k e hl=>hb1.block k hl));have HB1:Hid (Below w.heap.size w w1):=(by first|exact keep_trans HB.out hb1|exact keep_trans (keep_drew HB.out) hb1);have hz1w:wr.heap.size≤w1.heap.size:=hb1.size)|(at_builtin;refine wpList_append_any _ rfl _ _ 22 rfl W0.heap.size 3 i0 (.int .i64 0) 8 Tryz.underlying22 hi hz0 hz1 hz2 rfl (.slice av (i*N+j) cv) _ _ rfl (HO1.out.alloc _) (by have:=HL.out;simp only[World.size_alloc];omega) _ _ _ [.int .i64 (s i j)] rfl rfl (.inl ⟨_,rfl,cell_one_new _ _ _⟩) (by simp[Value.oneCell']) (by unfold maxLen;omega) (by omega) ?_;intro v7 w7 hown7 hst7 hk7;have hst8:Stays (fun k=>(Value.slice av (i*N+j) cv).ownBlock=some k) w1 w7:=((Below.stays ((Below.refl w1.heap.size w1).alloc (Nat.le_refl _) _) _).trans hst7 (fun _ e => .inl e));have hne:¬(Value.slice av (i*N+j) cv).ownBlock=some (w.heap.size+1):=(fun e=>absurd (HO1.out.lt _ e).1 (by omega));have NX7:=hst8.q NX1 hne;have NR7:=hst8.q (keepq hb1 Q0.out) (fun e=>absurd (HO1.out.lt _ e).1 (by omega));obtain ⟨a7,c7,rfl⟩:=owns_shape hown7;clear c0 c1 c2 cl;obtain ⟨c0,c1,c2,cl⟩:=c3_of NX7;have cf:=q_free NX7 2));refine ⟨?_,?_⟩;focus (exact ⟨_,hold_of (by first|exact keepq ((Below.refl _ _).alloc (Nat.le_refl _) _) NX1|exact keepq (keep_drew ((Below.refl _ _).alloc (Nat.le_refl _) _)) NX1|exact NX1|exact Q1.out)⟩)))
     refine wpS_late _ _ _ rfl ?_
     dsimp only[List.map]
     go_wp2_with (first|(refine (HC.out _ (by first|exact HB.out|exact HB.out.drew)).mono ?_;rintro _ w1 ⟨rfl,hb1⟩;have NX1:=keepq hb1 Q1.out;have HO1:=Lib.hid (owns_keep HO.out (fun k e hl=>hb1.block k hl));have HB1:Hid (Below w.heap.size w w1):=(by first|exact keep_trans HB.out hb1|exact keep_trans (keep_drew HB.out) hb1);have hz1w:wr.heap.size≤w1.heap.size:=hb1.size)|(at_builtin;refine wpList_append_any _ rfl _ _ 22 rfl W0.heap.size 3 i0 (.int .i64 0) 8 Tryz.underlying22 hi hz0 hz1 hz2 rfl (.slice av (i*N+j) cv) _ _ rfl (HO1.out.alloc _) (by have:=HL.out;simp only[World.size_alloc];omega) _ _ _ [.int .i64 (s i j)] rfl rfl (.inl ⟨_,rfl,cell_one_new _ _ _⟩) (by simp[Value.oneCell']) (by unfold maxLen;omega) (by omega) ?_;intro v7 w7 hown7 hst7 hk7;have hst8:Stays (fun k=>(Value.slice av (i*N+j) cv).ownBlock=some k) w1 w7:=((Below.stays ((Below.refl w1.heap.size w1).alloc (Nat.le_refl _) _) _).trans hst7 (fun _ e => .inl e));have hne:¬(Value.slice av (i*N+j) cv).ownBlock=some (w.heap.size+1):=(fun e=>absurd (HO1.out.lt _ e).1 (by omega));have NX7:=hst8.q NX1 hne;have NR7:=hst8.q (keepq hb1 Q0.out) (fun e=>absurd (HO1.out.lt _ e).1 (by omega));obtain ⟨a7,c7,rfl⟩:=owns_shape hown7;clear c0 c1 c2 cl;obtain ⟨c0,c1,c2,cl⟩:=c3_of NX7;have cf:=q_free NX7 2))
     refine NoPanic.normal ?_
     have NX8:=q_set (i:=2) NX7 (.slice a7 (i*N+j+1) c7)
     have NR8:=q_other (i:=2) NR7 (show w.heap.size≠w.heap.size+1 by omega) (.slice a7 (i*N+j+1) c7)
     have hown8:=ownsRow_setCell_other hown7 (a:=⟨w.heap.size+1,2,none⟩) (fun e=>absurd (hown7.lt _ e).1 (show ¬W0.heap.size≤w.heap.size+1 by omega)) (.slice a7 (i*N+j+1) c7)
     have hbw:Below w.heap.size w w7:=hst8.below' HB1.out.size HB1.out (fun k e=>by have:=(HO1.out.lt _ e).1;omega)
     have hbw8:=hbw.setCell (p:=⟨w.heap.size+1,2,none⟩) (show w.heap.size≤w.heap.size+1 by omega) (.slice a7 (i*N+j+1) c7)
     have hsz8:W0.heap.size≤(w7.setCell ⟨w.heap.size+1,2,none⟩ (.slice a7 (i*N+j+1) c7)).heap.size:=by
      have h1:=HB.out.size
      have h2:=hst8.size
      have h3:=HL.out
      have h4:wr.heap.size≤w1.heap.size:=hb1.size
      have h5:=(KeepsOthers.setCell w7 ⟨w.heap.size+1,2,none⟩ (.slice a7 (i*N+j+1) c7)).size
      omega
     clear c0 c1 c2 cl cf NX7 NR7 hown7 hst7 hst8 hbw
     generalize (w7.setCell ⟨w.heap.size+1,2,none⟩ (.slice a7 (i*N+j+1) c7))=W8 at NX8 NR8 hown8 hbw8 hsz8 ⊢
     go_wp2_with fail
     go_roundw
     case rel=>exact ⟨j+1,by omega,by go_num,_,NR8,NX8,by rw[← Nat.add_assoc,madeTo_succ N s hlt2,List.map_append];exact hown8,hbw8,hsz8⟩
     case measure=>simp[intOf];omega
    ·have e:j=N:=by omega
     subst e
     go_wp2
     go_roundw
     case rel=>exact ⟨i+1,by omega,by go_num,by rw[Nat.add_mul,Nat.one_mul];exact hm2⟩
     case measure=>simp[intOf];omega
  ·have e:i=N:=by omega
   subst e
   rw[← HQ.out] at hm
   obtain ⟨v,q0,q1,hown,hb,hL⟩:=hm.out
   obtain ⟨c0,c1,c2,cl⟩:=c3_of q1
   obtain ⟨d0,d1,d2,dl⟩:=c3_of q0
   have d0f:=q_free q0 0
   have d1f:=q_free q0 1
   have d2f:=q_free q0 2
   obtain ⟨av,cv,rfl⟩:=owns_shape hown
   clear q1
   go_wp2_with fail
   have g0:=q_set (i:=2) (q_set (i:=1) (q_set (i:=0) q0 (.int .i64 (i:Int))) (.int .i64 (i:Int))) (.slice av q cv)
   have hoW:=ownsRow_setCell_other (ownsRow_setCell_other (ownsRow_setCell_other hown (a:=⟨w.heap.size,0,none⟩) (fun e=>absurd (hown.lt _ e).1 (show ¬W0.heap.size≤w.heap.size by omega)) (.int .i64 (i:Int))) (a:=⟨w.heap.size,1,none⟩) (fun e=>absurd (hown.lt _ e).1 (show ¬W0.heap.size≤w.heap.size by omega)) (.int .i64 (i:Int))) (a:=⟨w.heap.size,2,none⟩) (fun e=>absurd (hown.lt _ e).1 (show ¬W0.heap.size≤w.heap.size by omega)) (.slice av q cv)
   have hbW:=((hb.setCell (p:=⟨w.heap.size,0,none⟩) (Nat.le_refl _) (.int .i64 (i:Int))).setCell (p:=⟨w.heap.size,1,none⟩) (Nat.le_refl _) (.int .i64 (i:Int))).setCell (p:=⟨w.heap.size,2,none⟩) (Nat.le_refl _) (.slice av q cv)
   obtain ⟨k0,k1,k2,kl⟩:=c3_of g0
   refine bodyPost_ret (v := .agg #[.int .i64 (i:Int),.int .i64 (i:Int),.slice av q cv]) ?_ rfl ⟨_,rfl,owns_base hoW (by omega),hbW⟩
   simp[results,Tryz.f94,go_sem,k0,k1,k2]
end
section
open Go Go.RowKit
attribute [local go_sem] over_cell
attribute [local go_sem] Oper.semAt_some
theorem divw {k C:Nat} (hk:k≤1000000):wrap64 ((k:Int) / (C:Int))=((k / C:Nat):Int):=by
 rw[← Int.natCast_ediv]
 have:k / C≤k:=Nat.div_le_self _ _
 generalize k / C=q at this ⊢
 unfold wrap64
 omega
theorem modw {k C:Nat}:(k:Int) % (C:Int)=((k % C:Nat):Int):=(Int.natCast_emod _ _).symm
end
section
def bitsOf:List Int→Nat
 | []=>0
 | x :: l=>bitsOf l ||| 1 <<< x.toNat
theorem bitsOf_bit {l:List Int} (h:∀y,y∈l→0≤y) {x:Nat}:(bitsOf l).testBit x=true↔(x:Int)∈l:=by
 induction l with
 | nil=>simp[bitsOf]
 | cons y l ih =>
  have h0:=h y List.mem_cons_self
  rw[bitsOf,Nat.testBit_or,Bool.or_eq_true,ih (fun z hz=>h z (List.mem_cons_of_mem _ hz)),Nat.one_shiftLeft,Nat.testBit_two_pow,decide_eq_true_eq,List.mem_cons]
  constructor
  ·rintro (h1|h1)
   ·exact Or.inr h1
   ·exact Or.inl (by omega)
  ·rintro (h1|h1)
   ·exact Or.inr (by omega)
   ·exact Or.inl h1
theorem bitsOf_snoc {l:List Int} {x:Int}:bitsOf (l++[x])=bitsOf l ||| 1 <<< x.toNat:=by
 induction l with
 | nil=>simp[bitsOf]
 | cons y l ih =>
  rw[List.cons_append,bitsOf,bitsOf,ih,Nat.or_assoc,Nat.or_assoc,Nat.or_comm (1 <<< x.toNat)]
theorem bitsOf_lt {l:List Int} {n:Nat} (h:∀y,y∈l→0≤y∧y<(n:Int)):bitsOf l<2 ^ n:=by
 apply Nat.lt_pow_two_of_testBit
 intro i hi
 rw[Bool.eq_false_iff]
 intro e
 have:=h _ ((bitsOf_bit (fun y hy=>(h y hy).1)).1 e)
 omega
def symAt (n:Nat) (cs:List Int) (i:Nat) (j:Int):Int:=cs[i*n+j.toNat]?.getD 0
def symsOf (n:Nat) (cs t:List Int):List Int:=(List.range t.length).map fun i=>symAt n cs i (t[i]?.getD 0)
def transB (n:Nat) (cs t:List Int):Bool:=(List.range t.length).all fun i=>(List.range i).all fun k=>!(t[i]?.getD 0==t[k]?.getD 0||symAt n cs i (t[i]?.getD 0)==symAt n cs k (t[k]?.getD 0))
theorem symsOf_snoc {n:Nat} {cs t:List Int} {j:Int}:symsOf n cs (t++[j])=symsOf n cs t++[symAt n cs t.length j]:=by
 unfold symsOf
 rw[List.length_append,List.length_singleton,List.range_succ,List.map_append,List.map_singleton,List.getElem?_append_right (by omega),Nat.sub_self]
 congr 1
 apply List.map_congr_left
 intro i hi
 rw[List.mem_range] at hi
 rw[List.getElem?_append_left (by omega)]
theorem transB_snoc {n:Nat} {cs t:List Int} {j:Int}:transB n cs (t++[j])=(transB n cs t&&decide (j ∉ t)&&decide (symAt n cs t.length j ∉ symsOf n cs t)):=by
 rw[Bool.eq_iff_iff,Bool.and_eq_true,Bool.and_eq_true,decide_eq_true_eq,decide_eq_true_eq]
 unfold transB
 rw[List.length_append,List.length_singleton,List.range_succ,List.all_append,Bool.and_eq_true]
 have hl:(t++[j])[t.length]?.getD 0=j:=by rw[List.getElem?_append_right (by omega),Nat.sub_self];rfl
 have hs:∀k,k<t.length→(t++[j])[k]?.getD 0=t[k]?.getD 0:=fun k hk=>by rw[List.getElem?_append_left hk]
 constructor
 ·rintro ⟨h1,h2⟩
  rw[List.all_eq_true] at h1 h2
  have h3:=h2 t.length (by simp)
  rw[List.all_eq_true] at h3
  refine ⟨⟨?_,?_⟩,?_⟩
  ·rw[List.all_eq_true]
   intro i hi
   have h4:=h1 i hi
   rw[List.all_eq_true] at h4 ⊢
   intro k hk
   have h5:=h4 k hk
   rw[List.mem_range] at hi hk
   rw[hs i hi,hs k (by omega)] at h5
   exact h5
  ·intro hm
   obtain ⟨k,hk,e⟩:=List.getElem_of_mem hm
   have h4:=h3 k (List.mem_range.2 hk)
   rw[hl,hs k hk,List.getElem?_eq_getElem hk,Option.getD_some,e] at h4
   simp at h4
  ·intro hm
   obtain ⟨k,hk,e⟩:=List.mem_map.1 hm
   have h4:=h3 k hk
   rw[hl,hs k (List.mem_range.1 hk),e] at h4
   simp at h4
 ·rintro ⟨⟨h1,h2⟩,h3⟩
  rw[List.all_eq_true] at h1
  constructor
  ·rw[List.all_eq_true]
   intro i hi
   have h4:=h1 i hi
   rw[List.all_eq_true] at h4 ⊢
   intro k hk
   have h5:=h4 k hk
   rw[List.mem_range] at hi hk
   rw[hs i hi,hs k (by omega)]
   exact h5
  ·rw[List.all_eq_true]
   intro i hi
   rw[List.mem_singleton] at hi
   subst hi
   rw[List.all_eq_true]
   intro k hk
   rw[List.mem_range] at hk
   rw[hl,hs k hk,Bool.not_eq_true',Bool.or_eq_false_iff,beq_eq_false_iff_ne,beq_eq_false_iff_ne]
   refine ⟨fun e=>h2 ?_,fun e=>h3 ?_⟩
   ·rw[e,List.getElem?_eq_getElem hk];exact List.getElem_mem hk
   ·rw[e];exact List.mem_map.2 ⟨k,List.mem_range.2 hk,rfl⟩
def transL (n:Nat) (cs:List Int):Nat→List Int→List (List Int)
 | 0,t=>[t]
 | f+1,t=>(List.range n).flatMap fun (j:Nat)=>if transB n cs (t++[(j:Int)])=true then transL n cs f (t++[(j:Int)]) else []
end
section
structure HSt where
 hold:Int→Option Nat
 seen:List Int
 asked:List Nat
def updH (h:Int→Option Nat) (x:Int) (s:Nat):Int→Option Nat:=fun y=>if y=x then some s else h y
theorem updH_same {h:Int→Option Nat} {x:Int} {s:Nat}:updH h x s x=some s:=if_pos rfl
theorem updH_ne {h:Int→Option Nat} {x y:Int} {s:Nat} (e:y≠x):updH h x s y=h y:=if_neg e
def tryM (place:Nat→HSt→Bool × HSt) (s:Nat):List Int→HSt→Bool × HSt
 | [],st=>(false,st)
 | x :: xs,st=>if x∈st.seen then tryM place s xs st else
   match st.hold x with
   | none=>(true,⟨updH st.hold x s,x :: st.seen,st.asked⟩)
   | some o=>if (place o ⟨st.hold,x :: st.seen,st.asked⟩).1=true
     then (true,⟨updH (place o ⟨st.hold,x :: st.seen,st.asked⟩).2.hold x s,(place o ⟨st.hold,x :: st.seen,st.asked⟩).2.seen,(place o ⟨st.hold,x :: st.seen,st.asked⟩).2.asked⟩)
     else tryM place s xs (place o ⟨st.hold,x :: st.seen,st.asked⟩).2
def placeM (sets:List (List Int)):Nat→Nat→HSt→Bool × HSt
 | 0,_,st=>(false,st)
 | f+1,s,st=>tryM (placeM sets f) s (sets[s]?.getD []) ⟨st.hold,st.seen,st.asked++[s]⟩
def unseen (U:List Int) (seen:List Int):Nat:=U.countP fun x=>decide (x ∉ seen)
theorem unseen_cons {U seen:List Int} {x:Int} (hx:x∈U) (hn:x ∉ seen):unseen U (x :: seen)<unseen U seen:=by
 unfold unseen
 induction U with
 | nil=>cases hx
 | cons u U ih =>
  have hle:U.countP (fun y=>decide (y ∉ x :: seen))≤U.countP (fun y=>decide (y ∉ seen)):=List.countP_mono_left (fun y _ h=>by simp only[decide_eq_true_eq] at h ⊢;exact fun h2=>h (List.mem_cons_of_mem _ h2))
  rw[List.countP_cons,List.countP_cons]
  by_cases e:u=x
  ·subst e
   have h1:decide (u ∉ u :: seen)=false:=by simp
   have h2:decide (u ∉ seen)=true:=by simpa using hn
   rw[h1,h2]
   simp only[Bool.false_eq_true,if_false,if_true]
   omega
  ·have h:=ih (by simpa [Ne.symm e] using hx)
   have h1:decide (u ∉ x :: seen)=decide (u ∉ seen):=by simp[e]
   rw[h1]
   omega
theorem unseen_mono {U a b:List Int} (h:∀x,x∈a→x∈b):unseen U b≤unseen U a:=by
 unfold unseen
 exact List.countP_mono_left (fun y _ h1=>by simp only[decide_eq_true_eq] at h1 ⊢;exact fun h2=>h1 (h y h2))
def Own (sets:List (List Int)) (h:Int→Option Nat):Prop:=∀x t,h x=some t→t<sets.length∧x∈sets[t]?.getD []
def InjH (h:Int→Option Nat):Prop:=∀a b t,a≠b→h a=some t→h b=some t→False
structure Won (sets:List (List Int)) (s:Nat) (st r:HSt):Prop where
 keep:∀x,x∈st.seen→r.hold x=st.hold x
 new:∃y,y ∉ st.seen∧y∈sets[s]?.getD []∧r.hold y=some s
 cov:∀t,(∃z,st.hold z=some t)→∃z,r.hold z=some t
 own:Own sets r.hold
 inj:∀a b t,a≠b→r.hold a=some t→r.hold b=some t→t=s∧(a∈st.seen∨b∈st.seen)
 val:∀z t,r.hold z=some t→t=s∨∃z',st.hold z'=some t
structure Lost (sets:List (List Int)) (st r:HSt) (N:List Int):Prop where
 hold:r.hold=st.hold
 seen:r.seen=N.reverse++st.seen
 nodup:N.Nodup
 fresh:∀x,x∈N→x ∉ st.seen
 all:∀x,x∈N→∃t,st.hold x=some t∧∀y,y∈sets[t]?.getD []→y∈r.seen
structure Ready (sets:List (List Int)) (s:Nat) (st:HSt):Prop where
 own:Own sets st.hold
 inj:InjH st.hold
 only:∀z,st.hold z=some s→z∈st.seen
def heldBy (h:Int→Option Nat) (N:List Int):List Nat:=N.map fun x=>(h x).getD 0
def PlaceOK (sets:List (List Int)) (f:Nat):Prop:=∀s st,s<sets.length→Ready sets s st→unseen sets.flatten st.seen<f →
 ((placeM sets f s st).1=true→Won sets s st (placeM sets f s st).2) ∧
 ((placeM sets f s st).1=false→∃N,Lost sets st (placeM sets f s st).2 N∧(placeM sets f s st).2.asked=st.asked++s :: heldBy st.hold N∧∀y,y∈sets[s]?.getD []→y∈(placeM sets f s st).2.seen)
theorem try_ok {sets:List (List Int)} {f:Nat} (hp:PlaceOK sets f) {s:Nat} (hs:s<sets.length):∀(xs:List Int) (st:HSt),(∀x,x∈xs→x∈sets[s]?.getD [])→Ready sets s st→unseen sets.flatten st.seen<f+1 →
  ((tryM (placeM sets f) s xs st).1=true→Won sets s st (tryM (placeM sets f) s xs st).2) ∧
  ((tryM (placeM sets f) s xs st).1=false→∃N,Lost sets st (tryM (placeM sets f) s xs st).2 N∧(tryM (placeM sets f) s xs st).2.asked=st.asked++heldBy st.hold N∧∀y,y∈xs→y∈(tryM (placeM sets f) s xs st).2.seen):=by
 intro xs
 induction xs with
 | nil =>
  intro st _ _ _
  refine ⟨fun h=>by simp[tryM] at h,fun _=>⟨[],⟨rfl,rfl,List.nodup_nil,by simp,by simp⟩,by simp[tryM,heldBy],by simp⟩⟩
 | cons x xs ih =>
  intro st hx R hu
  have hxs:=hx x List.mem_cons_self
  have hU:x∈sets.flatten:=by
   rw[List.mem_flatten]
   exact ⟨sets[s],List.getElem_mem hs,by rw[List.getElem?_eq_getElem hs,Option.getD_some] at hxs;exact hxs⟩
  rw[tryM]
  by_cases h1:x∈st.seen
  ·rw[if_pos h1]
   obtain ⟨ha,hb⟩:=ih st (fun y hy=>hx y (List.mem_cons_of_mem _ hy)) R hu
   refine ⟨ha,fun e=>?_⟩
   obtain ⟨N,hL,hA,hS⟩:=hb e
   refine ⟨N,hL,hA,fun y hy=>?_⟩
   rcases List.mem_cons.1 hy with rfl|hy
   ·rw[hL.seen,List.mem_append];exact Or.inr h1
   ·exact hS y hy
  ·rw[if_neg h1]
   cases ho:st.hold x with
   | none =>
    simp only
    refine ⟨fun _=>⟨fun z hz=>?_,⟨x,h1,hxs,updH_same⟩,fun t ⟨z,hz⟩=>⟨z,?_⟩,fun z t hz=>?_,fun a b t hab ha hb=>?_,fun z t hz=>?_⟩,fun e=>by cases e⟩ <;> (try dsimp only at *)
    ·exact updH_ne (fun e=>h1 (e▸hz))
    ·rw[updH_ne (fun e=>by rw[e,ho] at hz;cases hz)];exact hz
    ·by_cases e:z=x
     ·subst e;rw[updH_same] at hz;cases hz;exact ⟨hs,hxs⟩
     ·rw[updH_ne e] at hz;exact R.own z t hz
    ·by_cases e1:a=x
     ·subst e1
      rw[updH_same] at ha
      cases ha
      rw[updH_ne (fun e=>hab e.symm)] at hb
      exact ⟨rfl,Or.inr (R.only b hb)⟩
     ·rw[updH_ne e1] at ha
      by_cases e2:b=x
      ·subst e2
       rw[updH_same] at hb
       cases hb
       exact ⟨rfl,Or.inl (R.only a ha)⟩
      ·rw[updH_ne e2] at hb
       exact (R.inj a b t hab ha hb).elim
    ·by_cases e:z=x
     ·subst e;rw[updH_same] at hz;cases hz;exact Or.inl rfl
     ·rw[updH_ne e] at hz;exact Or.inr ⟨z,hz⟩
   | some o =>
    simp only
    have hol:=R.own x o ho
    have hso:o≠s:=fun e=>h1 (R.only x (e▸ho))
    have R2:Ready sets o ⟨st.hold,x :: st.seen,st.asked⟩:=⟨R.own,R.inj,fun z hz=>by
     by_cases e:z=x
     ·subst e;exact List.mem_cons_self
     ·exact (R.inj z x o e hz ho).elim⟩
    have hu2:unseen sets.flatten (x :: st.seen)<f:=by have:=unseen_cons hU h1;omega
    obtain ⟨pa,pb⟩:=hp o ⟨st.hold,x :: st.seen,st.asked⟩ hol.1 R2 hu2
    generalize placeM sets f o ⟨st.hold,x :: st.seen,st.asked⟩=r at pa pb ⊢
    by_cases hr:r.1=true
    ·rw[if_pos hr]
     have Wn:=pa hr
     obtain ⟨y,hy1,hy2,hy3⟩:=Wn.new
     have hyx:y≠x:=fun e=>hy1 (e▸List.mem_cons_self)
     have hrx:r.2.hold x=some o:=by rw[Wn.keep x List.mem_cons_self];exact ho
     refine ⟨fun _=>⟨fun z hz=>?_,⟨x,h1,hxs,updH_same⟩,fun t ht=>?_,fun z t hz=>?_,fun a b t hab ha hb=>?_,fun z t hz=>?_⟩,fun e=>by cases e⟩ <;> (try dsimp only at *)
     ·rw[updH_ne (fun e=>h1 (by rw[← e];exact hz))]
      exact Wn.keep z (List.mem_cons_of_mem _ hz)
     ·obtain ⟨z,hz⟩:=Wn.cov t ht
      by_cases e:z=x
      ·subst e
       rw[hrx] at hz
       cases hz
       exact ⟨y,by rw[updH_ne hyx];exact hy3⟩
      ·exact ⟨z,by rw[updH_ne e];exact hz⟩
     ·by_cases e:z=x
      ·subst e;rw[updH_same] at hz;cases hz;exact ⟨hs,hxs⟩
      ·rw[updH_ne e] at hz;exact Wn.own z t hz
     ·have hold1:∀z,z≠x→r.2.hold z=some s→z∈st.seen:=fun z hzx hz=>by
       rcases Wn.val z s hz with e|⟨z',hz'⟩
       ·exact absurd e.symm hso
       ·have h3:=R.only z' hz'
        by_cases e:z=z'
        ·subst e;exact h3
        ·have h4:r.2.hold z'=some s:=by rw[Wn.keep z' (List.mem_cons_of_mem _ h3)];exact hz'
         exact absurd (Wn.inj z z' s e hz h4).1.symm hso
      by_cases e1:a=x
      ·subst e1
       rw[updH_same] at ha
       cases ha
       rw[updH_ne (fun e=>hab e.symm)] at hb
       exact ⟨rfl,Or.inr (hold1 b (fun e=>hab e.symm) hb)⟩
      ·rw[updH_ne e1] at ha
       by_cases e2:b=x
       ·subst e2
        rw[updH_same] at hb
        cases hb
        exact ⟨rfl,Or.inl (hold1 a hab ha)⟩
       ·rw[updH_ne e2] at hb
        obtain ⟨e3,h4⟩:=Wn.inj a b t hab ha hb
        subst e3
        have h5:∀z,z≠x→z∈x :: st.seen→r.2.hold z=some t→False:=fun z hzx hz hh=>by
         rw[Wn.keep z hz] at hh
         exact R.inj z x t hzx hh ho
        rcases h4 with h4|h4
        ·exact (h5 a e1 h4 ha).elim
        ·exact (h5 b e2 h4 hb).elim
     ·by_cases e:z=x
      ·subst e;rw[updH_same] at hz;cases hz;exact Or.inl rfl
      ·rw[updH_ne e] at hz
       rcases Wn.val z t hz with e2|h6
       ·subst e2;exact Or.inr ⟨x,ho⟩
       ·exact Or.inr h6
    ·rw[if_neg hr]
     obtain ⟨N,hL,hA,hS⟩:=pb (by simpa using hr)
     have hh:r.2.hold=st.hold:=hL.hold
     have hse:r.2.seen=N.reverse++(x :: st.seen):=hL.seen
     have hsub:∀z,z∈st.seen→z∈r.2.seen:=fun z hz=>by rw[hse];exact List.mem_append_right _ (List.mem_cons_of_mem _ hz)
     have R3:Ready sets s r.2:=⟨by rw[hh];exact R.own,by rw[hh];exact R.inj,fun z hz=>hsub z (R.only z (by rw[hh] at hz;exact hz))⟩
     obtain ⟨ha,hb⟩:=ih r.2 (fun y hy=>hx y (List.mem_cons_of_mem _ hy)) R3 (by have:=unseen_mono (U:=sets.flatten) hsub;omega)
     generalize tryM (placeM sets f) s xs r.2=q at ha hb ⊢
     constructor
     ·intro e
      have Wn:=ha e
      refine ⟨fun z hz=>?_,?_,fun t ht=>Wn.cov t (by rw[hh];exact ht),Wn.own,fun a b t hab h2 h3=>?_,fun z t hz=>?_⟩
      ·rw[Wn.keep z (hsub z hz),hh]
      ·obtain ⟨y,hy1,hy2⟩:=Wn.new
       exact ⟨y,fun h=>hy1 (hsub y h),hy2⟩
      ·obtain ⟨e3,h4⟩:=Wn.inj a b t hab h2 h3
       refine ⟨e3,?_⟩
       subst e3
       have h5:∀z,z∈r.2.seen→q.2.hold z=some t→z∈st.seen:=fun z hz hq=>by
        rw[Wn.keep z hz,hh] at hq
        exact R.only z hq
       rcases h4 with h4|h4
       ·exact Or.inl (h5 a h4 h2)
       ·exact Or.inr (h5 b h4 h3)
      ·rcases Wn.val z t hz with e2|h6
       ·exact Or.inl e2
       ·rw[hh] at h6;exact Or.inr h6
     ·intro e
      obtain ⟨N2,hL2,hA2,hS2⟩:=hb e
      refine ⟨x :: (N++N2),⟨by rw[hL2.hold,hh],?_,?_,?_,?_⟩,?_,?_⟩
      ·rw[hL2.seen,hse];simp
      ·rw[List.nodup_cons,List.nodup_append]
       refine ⟨fun h=>?_,hL.nodup,hL2.nodup,fun a h2 b h3 e=>?_⟩
       ·rcases List.mem_append.1 h with h|h
        ·exact hL.fresh x h List.mem_cons_self
        ·exact hL2.fresh x h (by rw[hse];simp)
       ·subst e
        exact hL2.fresh a h3 (by rw[hse];simp[h2])
      ·intro z hz h2
       rcases List.mem_cons.1 hz with rfl|hz
       ·exact h1 h2
       ·rcases List.mem_append.1 hz with hz|hz
        ·exact hL.fresh z hz (List.mem_cons_of_mem _ h2)
        ·exact hL2.fresh z hz (hsub z h2)
      ·intro z hz
       have hq:∀y,y∈r.2.seen→y∈q.2.seen:=fun y hy=>by rw[hL2.seen];exact List.mem_append_right _ hy
       rcases List.mem_cons.1 hz with rfl|hz
       ·exact ⟨o,ho,fun y hy=>hq y (hS y hy)⟩
       ·rcases List.mem_append.1 hz with hz|hz
        ·obtain ⟨t,ht,h3⟩:=hL.all z hz
         exact ⟨t,ht,fun y hy=>hq y (h3 y hy)⟩
        ·obtain ⟨t,ht,h3⟩:=hL2.all z hz
         exact ⟨t,by rw[hh] at ht;exact ht,h3⟩
      ·rw[hA2,hA,hh]
       simp[heldBy,ho]
      ·intro y hy
       rcases List.mem_cons.1 hy with rfl|hy
       ·rw[hL2.seen,hse];simp
       ·exact hS2 y hy
theorem place_ok {sets:List (List Int)}:∀f,PlaceOK sets f:=by
 intro f
 induction f with
 | zero=>intro s st _ _ h;omega
 | succ f ih =>
  intro s st hs R hu
  rw[placeM]
  obtain ⟨ha,hb⟩:=try_ok ih hs (sets[s]?.getD []) ⟨st.hold,st.seen,st.asked++[s]⟩ (fun _ h=>h) ⟨R.own,R.inj,R.only⟩ hu
  refine ⟨fun e=>?_,fun e=>?_⟩
  ·have Wn:=ha e
   exact ⟨Wn.keep,Wn.new,Wn.cov,Wn.own,Wn.inj,Wn.val⟩
  ·obtain ⟨N,hL,hA,hS⟩:=hb e
   exact ⟨N,⟨hL.hold,hL.seen,hL.nodup,hL.fresh,hL.all⟩,by rw[hA];simp,hS⟩
end
section
def matchM (sets:List (List Int)) (F:Nat):Nat→Nat→(Int→Option Nat)→(Int→Option Nat) ⊕ List Nat
 | 0,_,h => .inl h
 | m+1,k,h=>if (placeM sets F k ⟨h,[],[]⟩).1=true then matchM sets F m (k+1) (placeM sets F k ⟨h,[],[]⟩).2.hold else .inr (placeM sets F k ⟨h,[],[]⟩).2.asked
structure Sdr (sets:List (List Int)) (l:List Int):Prop where
 len:l.length=sets.length
 nodup:l.Nodup
 mem:∀i,i<sets.length→l[i]?.getD 0∈sets[i]?.getD []
structure Violates (sets:List (List Int)) (A:List Nat):Prop where
 nodup:A.Nodup
 lt:∀t,t∈A→t<sets.length
 few:∃N:List Int,N.length<A.length∧∀t,t∈A→∀y,y∈sets[t]?.getD []→y∈N
theorem nodupI_le:∀{l m:List Int},l.Nodup→(∀x,x∈l→x∈m)→l.length≤m.length
 | [],_,_,_=>Nat.zero_le _
 | x :: l,m,hn,hs=>by
  rw[List.nodup_cons] at hn
  have hx:=hs x List.mem_cons_self
  have h:=nodupI_le (l:=l) (m:=m.erase x) hn.2 (fun y hy=>(List.mem_erase_of_ne (fun e=>hn.1 (by rw[← e];exact hy))).2 (hs y (List.mem_cons_of_mem _ hy)))
  rw[List.length_erase_of_mem hx] at h
  have:=List.length_pos_of_mem hx
  simp only[List.length_cons]
  omega
structure Held (sets:List (List Int)) (k:Nat) (h:Int→Option Nat):Prop where
 own:Own sets h
 inj:InjH h
 cov:∀t,t<k→∃z,h z=some t
 lt:∀z t,h z=some t→t<k
theorem held_sdr {sets:List (List Int)} {h:Int→Option Nat} (H:Held sets sets.length h):∃l,Sdr sets l:=by
 have hc:∀k,k≤sets.length→∃l:List Int,l.length=k∧∀i,i<k→h (l[i]?.getD 0)=some i:=by
  intro k
  induction k with
  | zero=>intro _;exact ⟨[],rfl,fun i hi=>absurd hi (by omega)⟩
  | succ k ih =>
   intro hk
   obtain ⟨l,hl,hm⟩:=ih (by omega)
   obtain ⟨z,hz⟩:=H.cov k (by omega)
   refine ⟨l++[z],by simp[hl],fun i hi=>?_⟩
   by_cases e:i=k
   ·subst e
    rw[List.getElem?_append_right (by omega),hl,Nat.sub_self]
    exact hz
   ·rw[List.getElem?_append_left (by omega)]
    exact hm i (by omega)
 obtain ⟨l,hl,hm⟩:=hc sets.length (Nat.le_refl _)
 refine ⟨l,hl,?_,fun i hi=>(H.own _ _ (hm i hi)).2⟩
 rw[List.nodup_iff_pairwise_ne,List.pairwise_iff_getElem]
 intro i j hi hj hij e
 have h1:=hm i (by omega)
 have h2:=hm j (by omega)
 rw[List.getElem?_eq_getElem hi,Option.getD_some] at h1
 rw[List.getElem?_eq_getElem hj,Option.getD_some,← e,h1] at h2
 cases h2
 omega
theorem heldBy_nodup {h:Int→Option Nat} (hI:InjH h):∀{N:List Int},N.Nodup→(∀x,x∈N→∃t,h x=some t)→(heldBy h N).Nodup:=by
 intro N
 induction N with
 | nil=>intro _ _;exact List.nodup_nil
 | cons x N ih =>
  intro hn ha
  rw[List.nodup_cons] at hn
  unfold heldBy
  rw[List.map_cons,List.nodup_cons]
  refine ⟨fun hm=>?_,ih hn.2 (fun y hy=>ha y (List.mem_cons_of_mem _ hy))⟩
  obtain ⟨y,hy,e⟩:=List.mem_map.1 hm
  obtain ⟨t,ht⟩:=ha x List.mem_cons_self
  obtain ⟨u,hu⟩:=ha y (List.mem_cons_of_mem _ hy)
  rw[ht,hu,Option.getD_some,Option.getD_some] at e
  subst e
  exact hI x y u (fun e=>hn.1 (e▸hy)) ht hu
theorem match_ok {sets:List (List Int)} {F:Nat} (hF:sets.flatten.length<F):∀(m k:Nat) (h:Int→Option Nat),k+m=sets.length→Held sets k h →
  (∀g,matchM sets F m k h = .inl g→∃l,Sdr sets l)∧(∀A,matchM sets F m k h = .inr A→Violates sets A∧A≠[]):=by
 intro m
 induction m with
 | zero =>
  intro k h hk H
  refine ⟨fun _ _=>?_,fun A e=>by simp[matchM] at e⟩
  have:k=sets.length:=by omega
  subst this
  exact held_sdr H
 | succ m ih =>
  intro k h hk H
  have R:Ready sets k ⟨h,[],[]⟩:=⟨H.own,H.inj,fun z hz=>absurd (H.lt z k hz) (by omega)⟩
  have hu:unseen sets.flatten []<F:=by
   have:unseen sets.flatten []≤sets.flatten.length:=List.countP_le_length
   omega
  obtain ⟨pa,pb⟩:=place_ok F k ⟨h,[],[]⟩ (by omega) R hu
  rw[matchM]
  generalize placeM sets F k ⟨h,[],[]⟩=r at pa pb ⊢
  by_cases hr:r.1=true
  ·rw[if_pos hr]
   have Wn:=pa hr
   refine ih (k+1) r.2.hold (by omega) ⟨Wn.own,fun a b t hab ha hb=>?_,fun t ht=>?_,fun z t hz=>?_⟩
   ·rcases (Wn.inj a b t hab ha hb).2 with h1|h1 <;> cases h1
   ·by_cases e:t=k
    ·subst e
     obtain ⟨y,_,_,hy⟩:=Wn.new
     exact ⟨y,hy⟩
    ·exact Wn.cov t (H.cov t (by omega))
   ·rcases Wn.val z t hz with e|⟨z',hz'⟩
    ·omega
    ·have:=H.lt z' t hz';omega
  ·rw[if_neg hr]
   refine ⟨fun g e=>(by cases e),fun A e=>?_⟩
   cases e
   obtain ⟨N,hL,hA,hS⟩:=pb (by simpa using hr)
   have hall:∀x,x∈N→∃t,h x=some t∧∀y,y∈sets[t]?.getD []→y∈r.2.seen:=hL.all
   have hse:r.2.seen=N.reverse:=by rw[hL.seen];simp
   have hAk:r.2.asked=k :: heldBy h N:=by rw[hA];simp
   rw[hAk]
   have hmem:∀t,t∈heldBy h N→∃x,x∈N∧h x=some t:=fun t ht=>by
    obtain ⟨x,hx,e⟩:=List.mem_map.1 ht
    obtain ⟨u,hu,_⟩:=hall x hx
    rw[hu,Option.getD_some] at e
    exact ⟨x,hx,e▸hu⟩
   refine ⟨⟨?_,?_,N,?_,?_⟩,by simp⟩
   ·rw[List.nodup_cons]
    refine ⟨fun hm=>?_,heldBy_nodup H.inj hL.nodup (fun x hx=>by obtain ⟨t,ht,_⟩:=hall x hx;exact ⟨t,ht⟩)⟩
    obtain ⟨x,_,hx⟩:=hmem k hm
    exact absurd (H.lt x k hx) (by omega)
   ·intro t ht
    rcases List.mem_cons.1 ht with rfl|ht
    ·omega
    ·obtain ⟨x,_,hx⟩:=hmem t ht
     have:=H.lt x t hx
     omega
   ·simp[heldBy]
   ·intro t ht y hy
    rcases List.mem_cons.1 ht with rfl|ht
    ·have:=hS y hy;rw[hse] at this;simpa using this
    ·obtain ⟨x,hxN,hx⟩:=hmem t ht
     obtain ⟨u,hu,h3⟩:=hall x hxN
     rw[hx] at hu
     cases hu
     have:=h3 y hy
     rw[hse] at this
     simpa using this
def feasB (sets:List (List Int)):Bool:=match matchM sets (sets.flatten.length+1) sets.length 0 (fun _=>none) with
 | .inl _=>true
 | .inr _=>false
def repP (sets:List (List Int)):Nat→List Int→List (List Int)→Option (List Int)
 | 0,out,_=>some out
 | f+1,out,left=>match (sets[out.length]?.getD []).find? fun x=>decide (x ∉ out)&&feasB (left.set out.length [x]) with
  | none=>none
  | some x=>repP sets f (out++[x]) (left.set out.length [x])
end
section
def delta (n:Nat) (cs:List Int) (c:Nat):Int:=(cs[c]?.getD 0 - ((c / n:Nat):Int) - ((c % n:Nat):Int)) % (n:Int)
def refuB (n:Nat) (cs:List Int) (d:Int):Bool:=decide (2≤d)&&decide ((n:Int) % d=0)&&decide ((((n*(n - 1) / 2:Nat):Int)) % d≠0)&&(List.range cs.length).all fun c=>decide (delta n cs c % d=0)
end
section
def freeB (C:Nat) (cs:List Int) (c:Nat) (x:Int):Bool:=(List.range cs.length).all fun d=>!(d != c&&cs[d]?.getD 0==x&&lineB C d c)
theorem freeB_iff {C:Nat} {cs:List Int} {c:Nat} {x:Int}:freeB C cs c x=true↔∀d,d<cs.length→d≠c→cs[d]?.getD 0=x→lineB C d c=false:=by
 unfold freeB
 rw[List.all_eq_true]
 constructor
 ·intro h d hd h1 h2
  have:=h d (List.mem_range.2 hd)
  rw[h2] at this
  simpa [h1] using this
 ·intro h d hd
  rw[List.mem_range] at hd
  by_cases h1:d=c
  ·simp[h1]
  ·by_cases h2:cs[d]?.getD 0=x
   ·have:=h d hd h1 h2
    simp[this]
   ·simp[h2]
def compP (C:Nat) (ok:Nat→Int→List Int→Bool):Nat→Nat→List Int→List (List Int)
 | 0,_,cs=>[cs]
 | f+1,k,cs=>if 0≤cs[k]?.getD 0 then compP C ok f (k+1) cs else
   (List.range C).flatMap fun (x:Nat)=>if (ok k (x:Int) cs&&freeB C cs k (x:Int))=true then compP C ok f (k+1) (cs.set k (x:Int)) else []
theorem gset_get {cs:List Int} {k i:Nat} {x:Int} (hk:k<cs.length):(cs.set k x)[i]?.getD 0=if i=k then x else cs[i]?.getD 0:=by
 rw[List.getElem?_set]
 by_cases e:k=i
 ·subst e;simp[hk]
 ·rw[if_neg e,if_neg (fun h=>e h.symm)]
end
section
theorem lineB_comm {C c d:Nat}:lineB C c d=lineB C d c:=by
 unfold lineB
 rw[Bool.eq_iff_iff]
 simp only[Bool.or_eq_true,beq_iff_eq]
 constructor
 ·rintro (h|h)
  ·exact Or.inl h.symm
  ·exact Or.inr h.symm
 ·rintro (h|h)
  ·exact Or.inl h.symm
  ·exact Or.inr h.symm
def OnceP (C:Nat) (cs:List Int):Prop:=∀c d,c<cs.length→d<cs.length→c≠d→lineB C c d=true→cs[c]?.getD 0=cs[d]?.getD 0→cs[c]?.getD 0<0
theorem once_iff {C:Nat} {cs:List Int}:twiceB C cs=false↔OnceP C cs:=by
 rw[Bool.eq_false_iff,Ne,twiceB_true]
 constructor
 ·intro h c d hc hd hcd hl he
  by_cases h0:0≤cs[c]?.getD 0
  ·exfalso
   rcases Nat.lt_or_gt_of_ne hcd with h1|h1
   ·exact h ⟨d,c,hd,h1,by rw[lineB_comm];exact hl,he.symm,by omega⟩
   ·exact h ⟨c,d,hc,h1,hl,he,h0⟩
  ·omega
 ·rintro h ⟨c,d,hc,hd,hl,he,h0⟩
  have:=h c d hc (by omega) (by omega) hl he
  omega
theorem once_set {C:Nat} {cs:List Int} {k:Nat} {x:Int} (hk:k<cs.length) (h:OnceP C cs) (hf:freeB C cs k x=true):OnceP C (cs.set k x):=by
 intro c d hc hd hcd hl he
 rw[List.length_set] at hc hd
 rw[gset_get hk,gset_get hk] at he
 rw[gset_get hk]
 rw[freeB_iff] at hf
 by_cases h1:c=k
 ·subst h1
  rw[if_pos rfl,if_neg (fun e=>hcd e.symm)] at he
  have:=hf d hd (fun e=>hcd e.symm) he.symm
  rw[lineB_comm] at this
  rw[this] at hl
  cases hl
 ·rw[if_neg h1] at he ⊢
  by_cases h2:d=k
  ·subst h2
   rw[if_pos rfl] at he
   have:=hf c hc h1 he
   rw[this] at hl
   cases hl
  ·rw[if_neg h2] at he
   exact h c d hc hd hcd hl he
def HasG (cs X:List Int):Prop:=X.length=cs.length∧∀i,0≤cs[i]?.getD 0→i<cs.length→X[i]?.getD 0=cs[i]?.getD 0
theorem comp_sound {C:Nat} {ok:Nat→Int→List Int→Bool}:∀{f k:Nat} {cs X:List Int},k+f=cs.length→(∀i,i<k→0≤cs[i]?.getD 0)→(∀x,x∈cs→x<(C:Int))→OnceP C cs→X∈compP C ok f k cs →
  HasG cs X∧(∀i:Nat,0≤X[i]?.getD 0)∧(∀x,x∈X→x<(C:Int))∧OnceP C X:=by
 intro f
 induction f with
 | zero =>
  intro k cs X hk hb hv ho hX
  unfold compP at hX
  rw[List.mem_singleton] at hX
  subst hX
  refine ⟨⟨rfl,fun _ _ _=>rfl⟩,fun i=>?_,hv,ho⟩
  by_cases hi:i<k
  ·exact hb i hi
  ·rw[List.getElem?_eq_none (by omega)];decide
 | succ f ih =>
  intro k cs X hk hb hv ho hX
  unfold compP at hX
  by_cases h0:0≤cs[k]?.getD 0
  ·rw[if_pos h0] at hX
   exact ih (by omega) (fun i hi=>if e:i=k then e▸h0 else hb i (by omega)) hv ho hX
  ·rw[if_neg h0] at hX
   obtain ⟨x,hx,hX⟩:=List.mem_flatMap.1 hX
   rw[List.mem_range] at hx
   by_cases hf:(ok k (x:Int) cs&&freeB C cs k (x:Int))=true
   ·rw[if_pos hf] at hX
    rw[Bool.and_eq_true] at hf
    have hkl:k<cs.length:=by omega
    obtain ⟨h1,h2,h3,h4⟩:=ih (cs:=cs.set k (x:Int)) (by rw[List.length_set];omega) (fun i hi=>by
     rw[gset_get hkl]
     by_cases e:i=k
     ·rw[if_pos e];omega
     ·rw[if_neg e];exact hb i (by omega)) (fun y hy=>by
     rcases List.mem_or_eq_of_mem_set hy with h|h
     ·exact hv y h
     ·omega) (once_set hkl ho hf.2) hX
    refine ⟨⟨by rw[h1.1,List.length_set],fun i hi hil=>?_⟩,h2,h3,h4⟩
    have hik:i≠k:=fun e=>h0 (e▸hi)
    have h5:=h1.2 i (by rw[gset_get hkl,if_neg hik];exact hi) (by rw[List.length_set];exact hil)
    rw[gset_get hkl,if_neg hik] at h5
    exact h5
   ·rw[if_neg hf] at hX
    cases hX
end
section
def pairEq (cs ds:List Int) (c d:Nat):Bool:=cs[c]?.getD 0==cs[d]?.getD 0&&ds[c]?.getD 0==ds[d]?.getD 0
def meetAt (cs ds:List Int) (d:Nat):Option Nat:=(List.range d).find? fun c=>pairEq cs ds c d
def meetR (cs ds:List Int):Option (Nat × Nat):=(List.range cs.length).findSome? fun d=>(meetAt cs ds d).map fun c=>(c,d)
theorem findSome_first {α:Type} {g:Nat→Option α} {d:Nat} {x:α}:∀{n:Nat},d<n→(∀i,i<d→g i=none)→g d=some x→(List.range n).findSome? g=some x:=by
 intro n
 induction n with
 | zero=>intro h;omega
 | succ n ih =>
  intro hd hb hx
  rw[List.range_succ,List.findSome?_append]
  by_cases e:d=n
  ·subst e
   have:(List.range d).findSome? g=none:=List.findSome?_eq_none_iff.2 (fun i hi=>hb i (List.mem_range.1 hi))
   rw[this]
   simp[hx]
  ·rw[ih (by omega) hb hx]
   rfl
theorem full_mem {n:Nat} {l:List Int} (hn:l.Nodup) (hl:l.length=n) (hr:∀y,y∈l→0≤y∧y<(n:Int)) {x:Int} (h0:0≤x) (h1:x<(n:Int)):x∈l:=by
 by_cases hm:x∈l
 ·exact hm
 ·exfalso
  have hx:x∈(List.range n).map fun (i:Nat)=>(i:Int):=List.mem_map.2 ⟨x.toNat,List.mem_range.2 (by omega),by omega⟩
  have h2:=nodupI_le (l:=l) (m:=((List.range n).map fun (i:Nat)=>(i:Int)).erase x) hn (fun y hy=>by
   have h3:=hr y hy
   have h4:y≠x:=fun e=>hm (e▸hy)
   exact (List.mem_erase_of_ne h4).2 (List.mem_map.2 ⟨y.toNat,List.mem_range.2 (by omega),by omega⟩))
  rw[List.length_erase_of_mem hx,List.length_map,List.length_range] at h2
  omega
theorem gcell_div {n i j:Nat} (hj:j<n):(i*n+j) / n=i∧(i*n+j) % n=j:=by
 constructor
 ·rw[Nat.add_comm,Nat.add_mul_div_right _ _ (by omega),Nat.div_eq_of_lt hj,Nat.zero_add]
 ·rw[Nat.add_comm,Nat.add_mul_mod_self_right,Nat.mod_eq_of_lt hj]
theorem gcell_lt {n i j:Nat} (hi:i<n) (hj:j<n):i*n+j<n*n:=by
 have:=Nat.mul_le_mul_right n (show i+1≤n by omega)
 rw[Nat.add_mul,Nat.one_mul] at this
 omega
theorem Latin.get {n:Nat} {cs:List Int} (L:Latin n cs) {c:Nat} (hc:c<n*n):0≤cs[c]?.getD 0∧cs[c]?.getD 0<(n:Int):=by
 rw[List.getElem?_eq_getElem (by rw[L.len];exact hc),Option.getD_some]
 exact L.num _ (List.getElem_mem _)
end
end Go.Proofs.YtmfpdakaeagdpaaGreat
