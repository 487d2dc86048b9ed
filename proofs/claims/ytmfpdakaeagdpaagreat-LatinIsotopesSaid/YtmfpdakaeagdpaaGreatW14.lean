/- Texts J58 to J60 of this proof, in one file. -/
import Derived.Test.YtmfpdakaeagdpaaGreatW01
import Derived.Test.YtmfpdakaeagdpaaGreatW02
import Derived.Test.YtmfpdakaeagdpaaGreatW03
import Derived.Test.YtmfpdakaeagdpaaGreatW04
import Derived.Test.YtmfpdakaeagdpaaGreatW05
import Derived.Test.YtmfpdakaeagdpaaGreatW06
import Derived.Test.YtmfpdakaeagdpaaGreatW07
import Derived.Test.YtmfpdakaeagdpaaGreatW08
import Derived.Test.YtmfpdakaeagdpaaGreatW09
import Derived.Test.YtmfpdakaeagdpaaGreatW10
import Derived.Test.YtmfpdakaeagdpaaGreatW11
import Derived.Test.YtmfpdakaeagdpaaGreatW13
import Derived.Below
import Derived.BigFrame
import Derived.BigQuiet
import Derived.Deep.CutBlock
import Derived.Deep.CutRange
import Derived.Deep.LoopGhost
import Derived.Deep.Quiet
import Derived.Deep.RegionHeld3
import Derived.DeepKeys4
import Derived.KernelRfl
import Derived.Laws.BitsAllLaws
import Derived.Laws.EntriesVeiled
import Derived.Lib.Hide
import Derived.Lib.SliceRun
import Derived.LoopIn
import Derived.LoopNIn
import Derived.Maps.AppendAt
import Derived.Maps.OwnIn
import Derived.Maps.OwnSet
import Derived.OneCell
import Derived.OrdersHeld
import Derived.OrdersIn
import Derived.OwnWalkIn
import Derived.RangeFuncBound
import Derived.RangeFuncCalls
import Derived.RangeFuncLeaves
import Derived.RangeFuncNested
import Derived.Shelf.Abstract
import Derived.Still
import Derived.TacticsIn
import Derived.TacticsInMore
import Derived.Test.YtmfpdakaeagdpaaGreatProg
import Derived.WalkKit
import Derived.WalkLawsBesides
import Derived.WalkSpells
import Derived.WideKeyPair
namespace Go.Proofs.YtmfpdakaeagdpaaGreat
set_option maxRecDepth 100000
set_option maxHeartbeats 16000000
section
open Go Go.RowKit
attribute [local go_sem] over_cell
attribute [local go_sem] Oper.semAt_some
theorem tr_leaf {N m c:Nat} {a:Option Addr} {cs:List Int} {bL bO:Nat} {t:List Int} {v vo v9 v7:Value} {pre:List (Value × List Int)} {M:Nat→Prop} {W w1 w7:World} (I:TrI N m c a cs bL bO t v vo pre M W)
  (h9:w1.ownsRow W.heap.size 3 1 v9 t.length (t.map (Value.int .i64))) (hb:Below W.heap.size W w1) (h7:w7.ownsRow (bO+2) 22 1 v7 (pre.length+1) (pre.map Prod.fst++[v9]))
  (hs:Stays (fun k=>vo.ownBlock=some k) w1 w7) (hk:∀k,v7.ownBlock=some k→vo.ownBlock=some k∨w1.heap.size≤k) :
  TrQ bO (bO+2) t v vo pre M W [t] (w7.setCell ⟨bO,0,none⟩ v7):=by
 have hsz:=I.size
 have hvo:=I.rows.1
 have q7:w7.heap[bO]?=some (.cells #[vo] 40 (0,0)):=hs.q (keepq hb I.q) (fun e=>by have:=(hvo.lt _ e).1;omega)
 have hR1:=I.rows.keep ((Below.stays hb M).toL (bO+2)) (fun k e => .inl e)
 have hR:=RowsI.append (x:=(v9,t)) hR1 (fun k e=>Nat.lt_of_lt_of_le (I.mlt k e) hb.size) (owns_base h9 hsz) (fun k e=>⟨fun e2=>by have:=I.mlt k e2;have:=(h9.lt k e).1;omega,fun e2=>by have:=(hvo.lt k e2).2;have:=(h9.lt k e).1;omega⟩) hs h7 hk
 have hown1:=owns_keep I.own (fun k _ hl=>hb.block k hl)
 have hown7:w7.ownsRow (bO+2) 3 1 v t.length (t.map (Value.int .i64)):=owns_keep hown1 (fun k e hl=>hs.block k hl (fun e2=>I.rows.2.1 k e2 (I.mv k e)))
 refine ⟨v7,[(v9,t)],q_set (i:=0) q7 v7,hR.setCell (by omega) _,rfl,ownsRow_setCell_other hown7 (a:=⟨bO,0,none⟩) (fun e=>absurd (hown7.lt _ e).1 (show ¬bO+2≤bO by omega)) v7,?_,fun k e=>?_⟩
 ·refine ((Below.stays hb _).trans hs (fun k e => .inl (.inr (.inl e)))).trans (Stays.setCell (S:=fun k=>k=bO) w7 (p:=⟨bO,0,none⟩) rfl v7) (fun k e => .inl (.inl e))
 ·rcases hk k e with e2|e2
  ·exact .inl e2
  ·exact .inr (Nat.le_trans hb.size e2)
theorem tr_start {N m c:Nat} {a:Option Addr} {cs:List Int} {bL bO:Nat} {t:List Int} {v vo:Value} {pre:List (Value × List Int)} {M:Nat→Prop} {W:World} (I:TrI N m c a cs bL bO t v vo pre M W):TrQ bO (bO+2) t v vo pre M W [] W :=
 ⟨vo,[],I.q,by rw[List.append_nil];exact I.rows,rfl,I.own,Stays.refl _ _,fun _ e => .inl e⟩
theorem TrQ.below {bO L:Nat} {t:List Int} {v vo:Value} {pre:List (Value × List Int)} {M:Nat→Prop} {W W1 W2:World} {T:List (List Int)} (h:TrQ bO L t v vo pre M W T W1) (hb:Below W1.heap.size W1 W2):TrQ bO L t v vo pre M W T W2:=by
 obtain ⟨vo',new,q,hR,hn,ho,hs,hk⟩:=h
 exact ⟨vo',new,keepq hb q,hR.keep ((Below.stays hb M).toL L) (fun k e => .inl e),hn,owns_keep ho (fun k _ hl=>hb.block k hl),hs.trans (Below.stays hb _) (fun k e => .inl e),hk⟩
theorem tr_child {N m c:Nat} {a:Option Addr} {cs:List Int} {bL bO:Nat} {t:List Int} {v vo vo1 v7:Value} {pre new:List (Value × List Int)} {M:Nat→Prop} {W wr w7:World} {T:List (List Int)} {j:Int} (I:TrI N m c a cs bL bO t v vo pre M W)
  (q1:wr.heap[bO]?=some (.cells #[vo1] 40 (0,0))) (hR:RowsI wr M (bO+2) vo1 (pre++new)) (hnew:new.map Prod.snd=T) (hown:wr.ownsRow (bO+2) 3 1 v t.length (t.map (Value.int .i64)))
  (hst:Stays (fun k=>k=bO∨vo.ownBlock=some k∨v.ownBlock=some k) W wr) (hblk:∀k,vo1.ownBlock=some k→vo.ownBlock=some k∨W.heap.size≤k)
  (o:Obj) (h7:w7.ownsRow (bO+2) 3 1 v7 (t.length+1) (t.map (Value.int .i64)++[.int .i64 j])) (hs7:Stays (fun k=>v.ownBlock=some k) (wr.alloc o) w7) (hx:ExtV (wr.alloc o) w7 t.length (t.length+1) v v7)
  (hj:0≤j∧j<(N:Int)) (htr:transB N cs (t++[j])=true) :
  TrI N m c a cs bL bO (t++[j]) v7 vo1 (pre++new) (fun k=>M k∨v7.ownBlock=some k) w7 ∧
  ∀T2 W2,TrQ bO (bO+2) (t++[j]) v7 vo1 (pre++new) (fun k=>M k∨v7.ownBlock=some k) w7 T2 W2→TrQ bO (bO+2) t v vo pre M W (T++T2) W2:=by
 have hB:Below wr.heap.size wr (wr.alloc o):=(Below.refl _ _).alloc (Nat.le_refl _) _
 have hsz:=I.size
 have hs8:Stays (fun k=>v.ownBlock=some k) wr w7:=(Below.stays hB _).trans hs7 (fun _ e => .inl e)
 have hws:(wr.alloc o).heap.size=wr.heap.size+1:=World.size_alloc _ _
 have hvlo:∀k,v.ownBlock=some k→bO+2≤k:=fun k e=>(hown.lt k e).1
 have hvolo:∀k,vo1.ownBlock=some k→bO+2≤k:=fun k e=>(hR.1.lt k e).1
 have h7lo:∀k,v7.ownBlock=some k→bO+2≤k:=fun k e=>(h7.lt k e).1
 have hmlt:∀k,M k→k<wr.heap.size:=fun k e=>Nat.lt_of_lt_of_le (I.mlt k e) hst.size
 have hvo1m:∀k,vo1.ownBlock=some k→v.ownBlock≠some k:=fun k e e2=>hR.2.1 k e (I.mv k e2)
 refine ⟨⟨?_,hs8.q q1 (fun e=>by have:=hvlo _ e;omega),?_,by rw[List.length_append,List.map_append];exact h7,fun k e=>?_,fun k e => .inr e,?_,fun y hy=>?_,htr⟩,?_⟩
 ·refine (I.st.stays hst ?_).stays hs8 (fun k e => .inr (hvlo k e))
  rintro k (e|e|e)
  ·exact .inl e
  ·exact .inr (I.rows.1.lt k e).1
  ·exact .inr (hvlo k e)
 ·refine hR.keep ((hs8.mono (fun k e=>I.mv k e)).toL (bO+2)) ?_
  rintro k (e|e)
  ·exact .inl e
  ·rcases hx.blk k e with e2|e2
   ·exact .inl (I.mv k e2)
   ·exact .inr (by omega)
 ·rcases e with e|e
  ·exact Nat.lt_of_lt_of_le (hmlt k e) hs8.size
  ·exact (h7.lt k e).2
 ·exact Nat.le_trans hsz (Nat.le_trans hst.size hs8.size)
 ·rcases List.mem_append.1 hy with e|e
  ·exact I.num y e
  ·rw[List.mem_singleton.1 e];exact hj
 ·rintro T2 W2 ⟨vo2,new2,q2,hR2,hnew2,hown2,hst2,hblk2⟩
  rw[List.length_append,List.map_append] at hown2
  refine ⟨vo2,new++new2,q2,by rw[← List.append_assoc];exact hR2.weak (fun k e => .inl e),by rw[List.map_append,hnew,hnew2],?_,?_,fun k e=>?_⟩
  ·refine own_back hx (hown.alloc o) hown2 (fun hb k e hl he=>?_)
   rw[hst2.block k (Nat.lt_of_lt_of_le hl hb.size) ?_,hb.block k hl]
   rintro (e2|e2|e2)
   ·have:=hvlo k e;omega
   ·exact hvo1m k e2 e
   ·exact he e2
  ·refine (hst.trans hs8 (fun k e => .inl (.inr (.inr e)))).trans hst2 ?_
   rintro k (e|e|e)
   ·exact .inl (.inl e)
   ·rcases hblk k e with e2|e2
    ·exact .inl (.inr (.inl e2))
    ·exact .inr e2
   ·rcases hx.blk k e with e2|e2
    ·exact .inl (.inr (.inr e2))
    ·exact .inr (by have:=hst.size;omega)
  ·rcases hblk2 k e with e2|e2
   ·exact hblk k e2
   ·exact .inr (by have:=hst.size;have:=hs8.size;omega)
theorem tsearch_c (N m c:Nat) (a:Option Addr) (cs:List Int) (bL bO:Nat) (S:Sq N cs) (hm:m=N*N) (h7:N≤7):∀(d:Nat) (t:List Int) (v vo:Value) (pre:List (Value × List Int)) (M:Nat→Prop) (W:World),t.length+d=N→TrI N m c a cs bL bO t v vo pre M W→pre.length+N ^ d≤900000 →
  Calls Tryz.prog 140 #[v,.int .u32 (bitsOf t:Int),.int .u32 (bitsOf (symsOf N cs t):Int),.pointer (some ⟨bL,0,none⟩),.pointer (some ⟨bO,0,none⟩),.pointer (some ⟨bO+1,0,none⟩)] W fun e W'=>e = .returned (.tuple #[])∧TrQ bO (bO+2) t v vo pre M W (transL N cs d t) W':=by
 intro d
 induction d with
 | zero =>
  intro t v vo pre M W hd I hbd
  obtain ⟨i0,hi,hz0,hz1,hz2⟩:=info_parts infoRow
  obtain ⟨av,cv,rfl⟩:=owns_shape I.own
  obtain ⟨ao,co,rfl⟩:=owns_shape I.rows.1
  have HI:=Lib.hid I
  have hsz:=I.size
  have hic:=(IC.of_owns I.own (by omega)).1
  have HCL:=Lib.hid (fun W' (hb:Below W.heap.size W W')=>clone_c av t.length cv t W' (hic.mono hb))
  obtain ⟨x0,x1,x2,xl⟩:=c3_of I.st.q
  obtain ⟨y0,yf,yl⟩:=c1_of I.q
  have htn:(t.length:Int)=(N:Int):=by omega
  rw[Nat.pow_zero] at hbd
  clear I hic
  go_enter Tryz.func140,Tryz.ntmps140
  go_upto_region 2 with fail
  refine wp_region_S (fun w'=>∃u,w'=over (W) u) [5,4] [(0,0),(0,1),(1,2),(1,3),(2,4),(2,5)] (by kernel_rfl) (by kernel_rfl) (by exact ⟨_,below_over (by repeat (first|assumption|exact Below.refl _ _|refine keep_drew ?_|refine keep_alloc ?_ _|refine keep_trans ?_ (by assumption)))⟩) ?_
  dsimp only[pickOps,nthOp]
  repeat (first|(refine wpS_skip rfl (fun K hK=>?_);go_big_quiet_op;refine hK _ ?_;clear hK K)|(refine wpS_quiet rfl rfl (fun K hK=>?_);go_big_quiet_op;refine hK _ ?_;clear hK K)|(refine wpS_loud ?_;go_wp2_with (first|(go_at_call 141;refine (HCL.out _ (by (repeat (first|assumption|exact Below.refl _ _|refine keep_drew ?_|refine keep_alloc ?_ _|refine keep_trans ?_ (by assumption))))).mono ?_;rintro _ w1 ⟨v9,rfl,hown9,hb9'⟩;have hb9:Below W.heap.size W w1:=(by (repeat (first|assumption|exact Below.refl _ _|refine keep_drew ?_|refine keep_alloc ?_ _|refine keep_trans ?_ (by assumption))));have hb9s:W.heap.size≤w1.heap.size:=hb9.size;obtain ⟨a9,c9,rfl⟩:=owns_shape hown9)|(at_builtin;refine wpList_append_ext _ rfl _ _ 40 rfl (bO+2) 22 i0 (.slice none 0 0) 24 Tryz.underlying40 hi hz0 hz1 hz2 rfl (.slice ao pre.length co) pre.length _ rfl ((owns_keep HI.out.rows.1 (fun k _ hl=>hb9.block k hl)).alloc _) (by simp only[World.size_alloc];omega) ⟨w1.heap.size,0,none⟩ 1 1 [.slice a9 t.length c9] rfl rfl (cell_one_new _ _ _) (by simp[Value.oneCell']) (by unfold maxLen;omega) (by omega) ?_;intro v7 w7 hown7 hst7 hx7;have hst8:Stays (fun k=>(Value.slice ao pre.length co).ownBlock=some k) w1 w7:=((Below.stays ((Below.refl w1.heap.size w1).alloc (Nat.le_refl _) _) _).trans hst7 (fun _ e => .inl e));have NX7:=hst8.q (keepq hb9 HI.out.q) (fun e=>absurd (HI.out.rows.1.lt _ e).1 (by omega));obtain ⟨a7,c7,rfl⟩:=owns_shape hown7;clear y0 yf yl;obtain ⟨y0,yf,yl⟩:=c1_of NX7));refine ⟨?_,?_⟩;focus (exact ⟨_,below_over (by repeat (first|assumption|exact Below.refl _ _|refine keep_drew ?_|refine keep_alloc ?_ _|refine keep_trans ?_ (by assumption)))⟩)))
  refine wpS_late _ _ _ rfl ?_
  dsimp only[List.map]
  go_wp2_with (first|(go_at_call 141;refine (HCL.out _ (by (repeat (first|assumption|exact Below.refl _ _|refine keep_drew ?_|refine keep_alloc ?_ _|refine keep_trans ?_ (by assumption))))).mono ?_;rintro _ w1 ⟨v9,rfl,hown9,hb9'⟩;have hb9:Below W.heap.size W w1:=(by (repeat (first|assumption|exact Below.refl _ _|refine keep_drew ?_|refine keep_alloc ?_ _|refine keep_trans ?_ (by assumption))));have hb9s:W.heap.size≤w1.heap.size:=hb9.size;obtain ⟨a9,c9,rfl⟩:=owns_shape hown9)|(at_builtin;refine wpList_append_ext _ rfl _ _ 40 rfl (bO+2) 22 i0 (.slice none 0 0) 24 Tryz.underlying40 hi hz0 hz1 hz2 rfl (.slice ao pre.length co) pre.length _ rfl ((owns_keep HI.out.rows.1 (fun k _ hl=>hb9.block k hl)).alloc _) (by simp only[World.size_alloc];omega) ⟨w1.heap.size,0,none⟩ 1 1 [.slice a9 t.length c9] rfl rfl (cell_one_new _ _ _) (by simp[Value.oneCell']) (by unfold maxLen;omega) (by omega) ?_;intro v7 w7 hown7 hst7 hx7;have hst8:Stays (fun k=>(Value.slice ao pre.length co).ownBlock=some k) w1 w7:=((Below.stays ((Below.refl w1.heap.size w1).alloc (Nat.le_refl _) _) _).trans hst7 (fun _ e => .inl e));have NX7:=hst8.q (keepq hb9 HI.out.q) (fun e=>absurd (HI.out.rows.1.lt _ e).1 (by omega));obtain ⟨a7,c7,rfl⟩:=owns_shape hown7;clear y0 yf yl;obtain ⟨y0,yf,yl⟩:=c1_of NX7))
  refine NoPanic.normal ?_
  have hQ:=tr_leaf HI.out hown9 hb9 hown7 hst8 (fun k e=>(hx7.blk k e).imp id (fun h=>by rw[World.size_alloc] at h;omega))
  have HQ:=Lib.hid hQ
  clear hQ
  generalize (w7.setCell ⟨bO,0,none⟩ (.slice a7 (pre.length+1) c7))=W8 at HQ ⊢
  go_wp2_with fail
  refine bodyPost_ret (results_none rfl _ _ _) rfl ?_
  exact ⟨rfl,HQ.out⟩
 | succ d ih =>
  intro t v vo pre M W hd I hbd
  obtain ⟨i0,hi,hz0,hz1,hz2⟩:=info_parts infoInt
  obtain ⟨av,cv,rfl⟩:=owns_shape I.own
  obtain ⟨ao,co,rfl⟩:=owns_shape I.rows.1
  have HI:=Lib.hid I
  have hsz:=I.size
  have hN1:=S.n1
  have htn:t.length<N:=by omega
  have htI:((t.length:Int)==(N:Int))=false:=by simpa using (show ((t.length:Int)≠(N:Int)) by omega)
  have hlm:t.length*N+N≤m:=by rw[hm,← Nat.succ_mul];exact Nat.mul_le_mul_right _ htn
  have hmt:bitsOf t<4294967296:=Nat.lt_of_lt_of_le (bitsOf_lt I.num) (Nat.le_trans (Nat.pow_le_pow_right (by decide) (show N≤32 by omega)) (by decide))
  have hsy:∀y,y∈symsOf N cs t→0≤y∧y<(N:Int):=fun y hy=>by
   unfold symsOf symAt at hy
   obtain ⟨i,_,rfl⟩:=List.mem_map.1 hy
   have:=S.num (i*N+(t[i]?.getD 0).toNat)
   omega
  have hms:bitsOf (symsOf N cs t)<4294967296:=Nat.lt_of_lt_of_le (bitsOf_lt hsy) (Nat.le_trans (Nat.pow_le_pow_right (by decide) (show N≤32 by omega)) (by decide))
  have HTB:=Lib.hid (fun x:Nat=>bitsOf_bit (l:=t) (fun y hy=>(I.num y hy).1) (x:=x))
  have HSB:=Lib.hid (fun x:Nat=>bitsOf_bit (l:=symsOf N cs t) (fun y hy=>(hsy y hy).1) (x:=x))
  have HTN:=Lib.hid (fun x:Int=>bitsOf_snoc (l:=t) (x:=x))
  have HSN:Hid (∀j:Int,bitsOf (symsOf N cs (t++[j]))=bitsOf (symsOf N cs t) ||| 1 <<< (symAt N cs t.length j).toNat):=fun j=>by rw[symsOf_snoc,bitsOf_snoc]
  have HTR:=Lib.hid (fun j:Int=>transB_snoc (n:=N) (cs:=cs) (t:=t) (j:=j))
  have HBL:=Lib.hid (fun j:Nat=>(tr_len N cs d t).2 j)
  have hbd2:N ^ (d+1)=N*N ^ d:=by rw[Nat.pow_succ,Nat.mul_comm]
  have HBD:Hid (∀j,j<N→∀k,k≤j*N ^ d→pre.length+k+N ^ d≤900000):=fun j hj k hk=>by
   have:=Nat.mul_le_mul_right (N ^ d) (show j+1≤N from hj)
   rw[Nat.add_mul,Nat.one_mul] at this
   omega
  have HST:=Lib.hid (tr_start I)
  have HIH:=Lib.hid ih
  obtain ⟨mt,hmte⟩:∃mt,mt=bitsOf t:=⟨_,rfl⟩
  obtain ⟨ms,hmse⟩:∃ms,ms=bitsOf (symsOf N cs t):=⟨_,rfl⟩
  rw[← hmte] at hmt HTB HTN ⊢
  rw[← hmse] at hms HSB HSN ⊢
  obtain ⟨x0,x1,x2,xl⟩:=c3_of I.st.q
  clear I hsy hmte hmse ih hbd hbd2 hm
  go_enter Tryz.func140,Tryz.ntmps140
  go_wp2_with fail
  go_loopw [10,11,25] (fun _ _ s wr=>∃j:Nat,j≤N∧s = .int .i64 j∧Hid (TrQ bO (bO+2) t (.slice av t.length cv) (.slice ao pre.length co) pre M W (trAcc N cs d t j) wr)) (fun _ _ s _=>N - (intOf s).toNat)
  case atStart=>exact ⟨0,by omega,rfl,HST⟩
  case round =>
   obtain ⟨j,hj,rfl,hq⟩:=hrel
   clear x0 x1 x2 xl HST
   by_cases hlt:j<N
   ·obtain ⟨vo1,new,q1,hR,hnew,hown,hst,hblk⟩:=hq.out
    have st1:TrW N m c a cs bL bO wr:=HI.out.st.stays hst (by
     rintro k (e|e|e)
     ·exact .inl e
     ·exact .inr (HI.out.rows.1.lt k e).1
     ·exact .inr (HI.out.own.lt k e).1)
    obtain ⟨ao1,co1,rfl⟩:=owns_shape hR.1
    have hnl:new.length≤j*N ^ d:=by rw[← List.length_map (f:=Prod.snd),hnew];exact HBL.out j
    have hbdj:=HBD.out j hlt _ hnl
    have H1:=Lib.hid (And.intro q1 (And.intro hR (And.intro hnew (And.intro hown (And.intro hst hblk)))))
    have ST:=Lib.hid st1
    have hS:=st1.ic.here
    have HAT:=Lib.hid (fun W' (hb:Below wr.heap.size wr W')=>lat_c (N:Int) N t.length j a m c cs W' (hS.mono hb) (by omega) (by omega) hlt (by omega))
    have hX:=S.num (t.length*N+j)
    have HSY:Hid (symAt N cs t.length (j:Int)=cs[t.length*N+j]?.getD 0):=rfl
    obtain ⟨X,hXe⟩:∃X,X=cs[t.length*N+j]?.getD 0:=⟨_,rfl⟩
    rw[← hXe] at HAT hX HSY
    have HSB1:=HSB.out X.toNat
    have HTB1:=HTB.out j
    have HTR1:=HTR.out (j:Int)
    have HSN1:=HSN.out (j:Int)
    have HTN1:=HTN.out (j:Int)
    rw[HSY.out] at HTR1 HSN1
    rw[Int.toNat_of_nonneg hX.1] at HSB1
    rw[HI.out.tr,Bool.true_and] at HTR1
    rw[Int.toNat_natCast] at HTN1
    obtain ⟨p1,hp1⟩:∃p1,p1=mt.testBit j:=⟨_,rfl⟩
    obtain ⟨p2,hp2⟩:∃p2,p2=ms.testBit X.toNat:=⟨_,rfl⟩
    have HH1:Hid (∀W',Calls Tryz.prog 117 #[.int .u32 (mt:Int),.int .i64 (j:Int)] W' fun e w'=>e = .returned (.bool p1)∧W'=w'):=fun W'=>by rw[hp1];exact syhas_c mt (j:Int) W' hmt (by omega) (by omega)
    have HH2:Hid (∀W',Calls Tryz.prog 117 #[.int .u32 (ms:Int),.int .i64 X] W' fun e w'=>e = .returned (.bool p2)∧W'=w'):=fun W'=>by rw[hp2];exact syhas_c ms X W' hms hX.1 (by omega)
    have HW1:Hid (∀W',Calls Tryz.prog 115 #[.int .u32 (mt:Int),.int .i64 (j:Int)] W' fun e w'=>e = .returned (.int .u32 (bitsOf (t++[(j:Int)]):Int))∧W'=w'):=fun W'=>by rw[HTN1];exact sywith_c mt (j:Int) W' hmt (by omega) (by omega)
    have HW2:Hid (∀W',Calls Tryz.prog 115 #[.int .u32 (ms:Int),.int .i64 X] W' fun e w'=>e = .returned (.int .u32 (bitsOf (symsOf N cs (t++[(j:Int)])):Int))∧W'=w'):=fun W'=>by rw[HSN1];exact sywith_c ms X W' hms hX.1 (by omega)
    rw[← hp1] at HTB1
    rw[← hp2] at HSB1
    have HNX:=Lib.hid (trAcc_succ N cs d t j)
    have hTRb:transB N cs (t++[(j:Int)])=(!p1&&!p2):=by
     rw[HTR1]
     have e1:decide ((j:Int) ∉ t)=!p1:=by cases p1 <;> simp at HTB1 ⊢ <;> exact HTB1
     have e2:decide (X ∉ symsOf N cs t)=!p2:=by cases p2 <;> simp at HSB1 ⊢ <;> exact HSB1
     rw[e1,e2]
    have HTRB:=Lib.hid hTRb
    obtain ⟨x0,x1,x2,xl⟩:=c3_of st1.q
    have z0:=q_cell st1.f 0
    have zl:=q_lt st1.f
    clear hTRb HTR1 HSN1 HTN1 HTB1 HSB1 hp1 hp2 hXe q1 hR hnew hown hst hblk st1 hS hnl
    have hjI:(j:Int)<(N:Int):=by omega
    have HSKIP:Hid ((!p1&&!p2)=false→TrQ bO (bO+2) t (.slice av t.length cv) (.slice ao pre.length co) pre M W (trAcc N cs d t (j+1)) wr):=fun e=>by
     rw[HNX.out,HTRB.out,e,if_neg (by decide),List.append_nil];exact hq.out
    cases p1
    case true =>
     go_wp2_with (first|(go_at_call 116;refine (HAT.out _ (Below.refl _ _)).mono ?_;rintro _ w1 ⟨rfl,hb1⟩)|(go_at_call 117;with_reducible refine (HH1.out _).mono ?_;rintro _ w2 ⟨rfl,rfl⟩)|(go_at_call 117;with_reducible refine (HH2.out _).mono ?_;rintro _ w3 ⟨rfl,rfl⟩)|fail)
     go_roundw
     case rel=>exact ⟨j+1,by omega,by go_num,TrQ.below (HSKIP.out rfl) hb1⟩
     case measure=>simp[intOf];omega
    case false =>
     cases p2
     case true =>
      go_wp2_with (first|(go_at_call 116;refine (HAT.out _ (Below.refl _ _)).mono ?_;rintro _ w1 ⟨rfl,hb1⟩)|(go_at_call 117;with_reducible refine (HH1.out _).mono ?_;rintro _ w2 ⟨rfl,rfl⟩)|(go_at_call 117;with_reducible refine (HH2.out _).mono ?_;rintro _ w3 ⟨rfl,rfl⟩)|fail)
      go_roundw
      case rel=>exact ⟨j+1,by omega,by go_num,TrQ.below (HSKIP.out rfl) hb1⟩
      case measure=>simp[intOf];omega
     case false =>
      go_upto_region 8 with (first|(go_at_call 116;refine (HAT.out _ (Below.refl _ _)).mono ?_;rintro _ w1 ⟨rfl,hb1⟩)|(go_at_call 117;with_reducible refine (HH1.out _).mono ?_;rintro _ w2 ⟨rfl,rfl⟩)|(go_at_call 117;with_reducible refine (HH2.out _).mono ?_;rintro _ w3 ⟨rfl,rfl⟩)|fail)
      obtain ⟨vo2,new2,q2,hR2,hnew2,hown2,hst2,hblk2⟩:=TrQ.below hq.out (keep_drew hb1)
      have st2:TrW N m c a cs bL bO w1.drew:=HI.out.st.stays hst2 (by
       rintro k (e|e|e)
       ·exact .inl e
       ·exact .inr (HI.out.rows.1.lt k e).1
       ·exact .inr (HI.out.own.lt k e).1)
      have hnl2:new2.length≤j*N ^ d:=by rw[← List.length_map (f:=Prod.snd),hnew2];exact HBL.out j
      have hbd2:=HBD.out j hlt _ hnl2
      have hsz1:bO+2≤w1.drew.heap.size:=Nat.le_trans hsz hst2.size
      have HCH:Hid (∀(o:Obj) v7 w7,w7.ownsRow (bO+2) 3 1 v7 (t.length+1) (t.map (Value.int .i64)++[.int .i64 (j:Int)])→Stays (fun k=>(Value.slice av t.length cv).ownBlock=some k) (w1.drew.alloc o) w7→ExtV (w1.drew.alloc o) w7 t.length (t.length+1) (.slice av t.length cv) v7 →
        Calls Tryz.prog 140 #[v7,.int .u32 (bitsOf (t++[(j:Int)]):Int),.int .u32 (bitsOf (symsOf N cs (t++[(j:Int)])):Int),.pointer (some ⟨bL,0,none⟩),.pointer (some ⟨bO,0,none⟩),.pointer (some ⟨bO+1,0,none⟩)] w7 fun e W'=>e = .returned (.tuple #[])∧TrQ bO (bO+2) t (.slice av t.length cv) (.slice ao pre.length co) pre M W (trAcc N cs d t (j+1)) W'):=by
       intro o v7 w7 h7 hs7 hx7
       obtain ⟨hI2,hfin⟩:=tr_child HI.out q2 hR2 hnew2 hown2 hst2 hblk2 o h7 hs7 hx7 ⟨by omega,hjI⟩ HTRB.out
       refine (HIH.out (t++[(j:Int)]) v7 vo2 (pre++new2) _ w7 (by rw[List.length_append,List.length_singleton];omega) hI2 (by rw[List.length_append];exact hbd2)).mono ?_
       rintro e W' ⟨he,hq9⟩
       refine ⟨he,?_⟩
       rw[HNX.out,HTRB.out]
       exact hfin _ _ hq9
      have zS:(cutW w1.drew (bO+2)).cell? ⟨bO+1,0,none⟩=some (.func (.func 140) #[] #[.pointer (some ⟨bL,0,none⟩),.pointer (some ⟨bO,0,none⟩),.pointer (some ⟨bO+1,0,none⟩)]):=(cutW_cell hsz1 (o:=0) (by omega)).trans (q_cell st2.f 0)
      have hcs:=cutW_size hsz1
      have hcb:=cutW_below hsz1
      have hbS:bO+1<(cutW w1.drew (bO+2)).heap.size:=by omega
      generalize (cutW w1.drew (bO+2))=S9 at zS hcs hcb hbS
      have hcb1:Below S9.heap.size S9 w1:=⟨hcb.os,hcb.tape,hcb.output,hcb.size,hcb.block⟩
      have HO2:=Lib.hid hown2
      have HZ:Hid (∀o,bO+2≤(w1.drew.alloc o).heap.size):=fun o=>by rw[World.size_alloc];omega
      clear q2 hR2 hnew2 hown2 hst2 hblk2 st2 hnl2 hbd2 x0 x1 x2 xl z0 zl
      refine wp_region_S (fun w'=>∃u,w'=over (S9) u) [11] [(0,0),(0,1),(0,2),(0,5),(0,6),(0,8),(0,9),(1,3),(1,4),(1,7),(1,10),(2,11)] (by kernel_rfl) (by kernel_rfl) (by exact ⟨_,below_over (by repeat (first|assumption|exact Below.refl _ _|refine keep_drew ?_|refine keep_alloc ?_ _|refine keep_trans ?_ (by assumption)))⟩) ?_
      dsimp only[pickOps,nthOp]
      repeat (first|(refine wpS_skip rfl (fun K hK=>?_);go_big_quiet_op;refine hK _ ?_;clear hK K)|(refine wpS_quiet rfl rfl (fun K hK=>?_);go_big_quiet_op;refine hK _ ?_;clear hK K)|(refine wpS_loud ?_;go_wp2_with (first|(at_builtin;refine wpList_append_ext _ rfl _ _ 22 rfl (bO+2) 3 i0 (.int .i64 0) 8 Tryz.underlying22 hi hz0 hz1 hz2 rfl (.slice av t.length cv) t.length _ rfl (HO2.out.alloc _) (HZ.out _) ⟨w1.drew.heap.size,0,none⟩ 1 1 [.int .i64 (j:Int)] rfl rfl (cell_one_new _ _ _) (by simp[Value.oneCell']) (by unfold maxLen;omega) (by omega) ?_;intro v7 w7 hown7 hst7 hx7;have hS7:Below S9.heap.size S9 w7:=hst7.below' (by rw[hcs];exact HZ.out _) (keep_alloc hcb _) (fun k e=>by rw[hcs];exact (HO2.out.lt k e).1))|(go_at_call 115;with_reducible refine (HW1.out _).mono ?_;rintro _ w2 ⟨rfl,rfl⟩)|(go_at_call 115;with_reducible refine (HW2.out _).mono ?_;rintro _ w3 ⟨rfl,rfl⟩)|(refine (HCH.out _ _ _ hown7 hst7 hx7).mono ?_;rintro _ w8 ⟨rfl,hq8⟩));refine ⟨?_,?_⟩;focus (exact ⟨_,below_over (by repeat (first|assumption|exact Below.refl _ _|refine keep_drew ?_|refine keep_alloc ?_ _|refine keep_trans ?_ (by assumption)))⟩)))
      refine wpS_late _ _ _ rfl ?_
      dsimp only[List.map]
      go_wp2_with (first|(at_builtin;refine wpList_append_ext _ rfl _ _ 22 rfl (bO+2) 3 i0 (.int .i64 0) 8 Tryz.underlying22 hi hz0 hz1 hz2 rfl (.slice av t.length cv) t.length _ rfl (HO2.out.alloc _) (HZ.out _) ⟨w1.drew.heap.size,0,none⟩ 1 1 [.int .i64 (j:Int)] rfl rfl (cell_one_new _ _ _) (by simp[Value.oneCell']) (by unfold maxLen;omega) (by omega) ?_;intro v7 w7 hown7 hst7 hx7;have hS7:Below S9.heap.size S9 w7:=hst7.below' (by rw[hcs];exact HZ.out _) (keep_alloc hcb _) (fun k e=>by rw[hcs];exact (HO2.out.lt k e).1))|(go_at_call 115;with_reducible refine (HW1.out _).mono ?_;rintro _ w2 ⟨rfl,rfl⟩)|(go_at_call 115;with_reducible refine (HW2.out _).mono ?_;rintro _ w3 ⟨rfl,rfl⟩)|(refine (HCH.out _ _ _ hown7 hst7 hx7).mono ?_;rintro _ w8 ⟨rfl,hq8⟩))
      refine NoPanic.normal ?_
      have HQ8:=Lib.hid hq8
      go_wp2_with fail
      go_roundw
      case rel=>exact ⟨j+1,by omega,by go_num,HQ8⟩
      case measure=>simp[intOf];omega
   ·have e:j=N:=by omega
    subst e
    go_wp2_with fail
    go_end0
    exact ⟨rfl,by rw[← trAcc_all];exact hq.out⟩
end
section
open Go Go.RowKit
attribute [local go_sem] over_cell
attribute [local go_sem] Oper.semAt_some
def trE (r C:Int) (cs:List Int):Int:=firstL [sqE 0 r C cs,whenV (decide (7<r)) 20]
def trL (r C:Int) (cs:List Int):List (List Int):=if trE r C cs=0 then transL r.toNat cs r.toNat [] else []
theorem trE_ok {r C:Int} {cs:List Int} (h:trE r C cs=0):∃n:Nat,r=(n:Int)∧C=(n:Int)∧Latin n cs∧n≤7:=by
 unfold trE at h
 obtain ⟨h1,h2⟩:=firstL_cons0 h
 obtain ⟨h3,_⟩:=firstL_cons0 h2
 obtain ⟨n,rfl,rfl,L⟩:=sqE_ok h1
 refine ⟨n,rfl,rfl,L,?_⟩
 unfold whenV at h3
 split at h3
 ·exact absurd h3 (by decide)
 ·rename_i hx
  have:¬(7:Int)<(n:Int):=by simpa using hx
  omega
theorem tr_el_len {n:Nat} {cs:List Int}:∀{f:Nat} {t x:List Int},x∈transL n cs f t→x.length=t.length+f
 | 0,t,x,h=>by rw[transL,List.mem_singleton] at h;rw[h];rfl
 | f+1,t,x,h=>by
  rw[transL,List.mem_flatMap] at h
  obtain ⟨j,_,hj⟩:=h
  split at hj
  ·have:=tr_el_len hj
   rw[List.length_append,List.length_singleton] at this
   omega
  ·cases hj
theorem rc_nil (w:World):RC w none 0 []:=⟨⟨rfl,by omega⟩,fun k hk=>absurd hk (by omega)⟩
theorem transv_c (r C:Int) (a:Option Addr) (n c:Nat) (cs:List Int) (w:World) (h:IC w a n cs) :
  Calls Tryz.prog 67 #[.agg #[.int .i64 r,.int .i64 C,.slice a n c]] w fun e w'=>∃a9 c9,e = .returned (.tuple #[.slice a9 (trL r C cs).length c9,.int .i64 (trE r C cs)])∧RC w' a9 (trL r C cs).length (trL r C cs)∧Below w.heap.size w w':=by
 have HCK:=Lib.hid (fun W (hb:Below w.heap.size w W)=>latcheck_c r C a n c cs W (h.mono hb))
 have HF:Hid (firstL [sqE 0 r C cs,whenV (decide (7<r)) 20]=trE r C cs):=rfl
 by_cases h0:trE r C cs=0
 ·obtain ⟨N,rfl,rfl,L,h7⟩:=trE_ok h0
  have hl:trL (N:Int) (N:Int) cs=transL N cs N []:=by unfold trL;rw[if_pos h0];rfl
  have HL:=Lib.hid hl
  have hm:n=N*N:=by rw[← h.len,L.len]
  have hN1:=L.pos
  rw[h0] at HF ⊢
  rw[hl]
  have HSU:=Lib.hid (ic_sure h)
  have HSC:Hid (∀bL bO W,TrI N n c a cs bL bO [] (.slice none 0 0) (.slice none 0 0) [] noB W→Calls Tryz.prog 140 #[.slice none 0 0,.int .u32 0,.int .u32 0,.pointer (some ⟨bL,0,none⟩),.pointer (some ⟨bO,0,none⟩),.pointer (some ⟨bO+1,0,none⟩)] W fun e W'=>e = .returned (.tuple #[])∧TrQ bO (bO+2) [] (.slice none 0 0) (.slice none 0 0) [] noB W (transL N cs N []) W'):=fun bL bO W I=>tsearch_c N n c a cs bL bO L.sq hm h7 N [] _ _ [] noB W (by simp) I (by
   have:N ^ N≤7 ^ 7:=Nat.le_trans (Nat.pow_le_pow_left h7 N) (Nat.pow_le_pow_right (by decide) h7)
   simp only[List.length_nil];omega)
  have HLE:Hid ((transL N cs N []).length≤900000):=by
   have h1:=(tr_len N cs N []).1
   have:N ^ N≤7 ^ 7:=Nat.le_trans (Nat.pow_le_pow_left h7 N) (Nat.pow_le_pow_right (by decide) h7)
   exact Nat.le_trans h1 (Nat.le_trans this (by decide))
  have HLN:Hid (∀t,t∈transL N cs N []→t.length≤7):=fun t ht=>by have:=tr_el_len ht;simp at this;omega
  clear h0 hl hm h L
  go_enter Tryz.func67,Tryz.ntmps67
  go_upto_region 1 with fail
  have fB:Below w.heap.size w (w.alloc (.cells #[.int .i64 (N:Int),.int .i64 (N:Int),.slice a n c] 24)):=(Below.refl _ _).alloc (Nat.le_refl _) _
  have FQ:Hid ((w.alloc (.cells #[.int .i64 (N:Int),.int .i64 (N:Int),.slice a n c] 24)).heap[w.heap.size]?=some (.cells #[.int .i64 (N:Int),.int .i64 (N:Int),.slice a n c] 24 (0,0))):=World.alloc_heap_new _ _
  generalize (w.alloc (.cells #[.int .i64 (N:Int),.int .i64 (N:Int),.slice a n c] 24))=W0 at fB FQ ⊢
  obtain ⟨x0,x1,x2,xl⟩:=c3_of FQ.out
  refine wp_region_S (fun w'=>∃u,w'=over (W0) u) [8,7,6,5] [(0,0),(0,2),(0,3),(0,4),(1,1),(2,5),(2,6),(2,7),(2,8)] (by kernel_rfl) (by kernel_rfl) (by exact ⟨_,below_over (by repeat (first|assumption|exact Below.refl _ _|refine keep_drew ?_|refine keep_alloc ?_ _|refine keep_trans ?_ (by assumption)))⟩) ?_
  dsimp only[pickOps,nthOp]
  repeat (first|(refine wpS_skip rfl (fun K hK=>?_);go_big_quiet_op;refine hK _ ?_;clear hK K)|(refine wpS_quiet rfl rfl (fun K hK=>?_);go_big_quiet_op;refine hK _ ?_;clear hK K)|(refine wpS_loud ?_;go_wp2_with (first|(go_at_call 58;refine (HCK.out _ (by (repeat (first|assumption|exact Below.refl _ _|refine keep_drew ?_|refine keep_alloc ?_ _|refine keep_trans ?_ (by assumption))))).mono ?_;rintro _ w1 ⟨rfl,hb1'⟩;have hb1:Below W0.heap.size W0 w1:=(by (repeat (first|assumption|exact Below.refl _ _|refine keep_drew ?_|refine keep_alloc ?_ _|refine keep_trans ?_ (by assumption)))))|(go_at_call 93;refine (twhen_c _ _ _).mono ?_;rintro _ w2 ⟨rfl,rfl⟩)|(go_at_call 92;refine (tfirst_c _ _ _ _ _ (IC.new2 _ _ _ _)).mono ?_;rw[HF.out];rintro _ w3 ⟨rfl,rfl⟩));refine ⟨?_,?_⟩;focus (exact ⟨_,below_over (by repeat (first|assumption|exact Below.refl _ _|refine keep_drew ?_|refine keep_alloc ?_ _|refine keep_trans ?_ (by assumption)))⟩)))
  refine wpS_late _ _ _ rfl ?_
  dsimp only[List.map]
  go_wp2_with (first|(go_at_call 58;refine (HCK.out _ (by (repeat (first|assumption|exact Below.refl _ _|refine keep_drew ?_|refine keep_alloc ?_ _|refine keep_trans ?_ (by assumption))))).mono ?_;rintro _ w1 ⟨rfl,hb1'⟩;have hb1:Below W0.heap.size W0 w1:=(by (repeat (first|assumption|exact Below.refl _ _|refine keep_drew ?_|refine keep_alloc ?_ _|refine keep_trans ?_ (by assumption)))))|(go_at_call 93;refine (twhen_c _ _ _).mono ?_;rintro _ w2 ⟨rfl,rfl⟩)|(go_at_call 92;refine (tfirst_c _ _ _ _ _ (IC.new2 _ _ _ _)).mono ?_;rw[HF.out];rintro _ w3 ⟨rfl,rfl⟩))
  refine NoPanic.normal ?_
  have HB2:Hid (Below w.heap.size w (w1.alloc (.cells #[.int .i64 (sqE 0 (N:Int) (N:Int) cs),.int .i64 (whenV (decide (7<(N:Int))) 20)] 27))):=by unfold Hid;(repeat (first|assumption|exact Below.refl _ _|refine keep_drew ?_|refine keep_alloc ?_ _|refine keep_trans ?_ (by assumption)))
  have HQ2:=Lib.hid (keepq (keep_alloc hb1 (.cells #[.int .i64 (sqE 0 (N:Int) (N:Int) cs),.int .i64 (whenV (decide (7<(N:Int))) 20)] 27)) FQ.out)
  clear x0 x1 x2 xl hb1 hb1' fB FQ
  generalize (w1.alloc (.cells #[.int .i64 (sqE 0 (N:Int) (N:Int) cs),.int .i64 (whenV (decide (7<(N:Int))) 20)] 27))=W2 at HB2 HQ2 ⊢
  go_upto_region 7 with fail
  have gsz:((W2.alloc (.cells #[.slice none 0 0] 40)).alloc (.cells #[.func (.func 140) #[] #[.pointer (some ⟨w.heap.size,0,none⟩),.pointer (some ⟨W2.heap.size,0,none⟩),.pointer (some ⟨W2.heap.size+1,0,none⟩)]] 141)).heap.size=W2.heap.size+2:=by simp only[World.size_alloc] <;> omega
  have gB:Below W2.heap.size W2 ((W2.alloc (.cells #[.slice none 0 0] 40)).alloc (.cells #[.func (.func 140) #[] #[.pointer (some ⟨w.heap.size,0,none⟩),.pointer (some ⟨W2.heap.size,0,none⟩),.pointer (some ⟨W2.heap.size+1,0,none⟩)]] 141)):=((Below.refl _ _).alloc (Nat.le_refl _) _).alloc (by simp only[World.size_alloc];omega) _
  have gq0:((W2.alloc (.cells #[.slice none 0 0] 40)).alloc (.cells #[.func (.func 140) #[] #[.pointer (some ⟨w.heap.size,0,none⟩),.pointer (some ⟨W2.heap.size,0,none⟩),.pointer (some ⟨W2.heap.size+1,0,none⟩)]] 141)).heap[W2.heap.size]?=some (.cells #[.slice none 0 0] 40 (0,0)):=by have h:=World.alloc_heap_new W2 (.cells #[.slice none 0 0] 40);exact (Below.heap_alloc _ _ _ (by simp only[World.size_alloc];omega)).trans (h)
  have gq1:((W2.alloc (.cells #[.slice none 0 0] 40)).alloc (.cells #[.func (.func 140) #[] #[.pointer (some ⟨w.heap.size,0,none⟩),.pointer (some ⟨W2.heap.size,0,none⟩),.pointer (some ⟨W2.heap.size+1,0,none⟩)]] 141)).heap[W2.heap.size+1]?=some (.cells #[.func (.func 140) #[] #[.pointer (some ⟨w.heap.size,0,none⟩),.pointer (some ⟨W2.heap.size,0,none⟩),.pointer (some ⟨W2.heap.size+1,0,none⟩)]] 141 (0,0)):=by have h:=World.alloc_heap_new (W2.alloc (.cells #[.slice none 0 0] 40)) (.cells #[.func (.func 140) #[] #[.pointer (some ⟨w.heap.size,0,none⟩),.pointer (some ⟨W2.heap.size,0,none⟩),.pointer (some ⟨W2.heap.size+1,0,none⟩)]] 141);simp only[World.size_alloc] at h;exact h
  generalize ((W2.alloc (.cells #[.slice none 0 0] 40)).alloc (.cells #[.func (.func 140) #[] #[.pointer (some ⟨w.heap.size,0,none⟩),.pointer (some ⟨W2.heap.size,0,none⟩),.pointer (some ⟨W2.heap.size+1,0,none⟩)]] 141))=W5 at gsz gB gq0 gq1 ⊢
  have hBW:=keep_trans HB2.out gB
  have hwl:w.heap.size<W2.heap.size:=q_lt HQ2.out
  have I:TrI N n c a cs w.heap.size W2.heap.size [] (.slice none 0 0) (.slice none 0 0) [] noB W5:=⟨⟨keepq gB HQ2.out,gq1,HSU.out.keep hBW.size (fun k e=>hBW.block k e),hwl⟩,gq0,RowsI.nil _ _ _,World.ownsRow_nil _ _ _ _,fun k e=>e.elim,fun k e=>(by cases e),by omega,fun y hy=>(by cases hy),rfl⟩
  have hC:=HSC.out _ _ _ I
  have HC:=Lib.hid hC
  have HBW:=Lib.hid hBW
  obtain ⟨z0,zf,zl⟩:=c1_of gq1
  clear I hC gsz gq0 gq1 gB hBW
  go_upto_region 8 with (first|(go_at_call 140;refine HC.out.mono ?_;rintro _ w6 ⟨rfl,hq⟩))
  obtain ⟨vo,new,q6,hR6,hn6,_,hst6,_⟩:=hq
  rw[List.nil_append] at hR6
  have hnl:new.length=(transL N cs N []).length:=by rw[← hn6,List.length_map]
  obtain ⟨a9,c9,rfl,hrc,_⟩:=hR6.rc (by rw[hnl];have:=HLE.out;omega) (fun x hx=>by have:=HLN.out x.2 (by rw[← hn6];exact List.mem_map.2 ⟨x,hx,rfl⟩);omega)
  obtain ⟨y0,yf,yl⟩:=c1_of q6
  have hb6:Below w.heap.size w w6:=hst6.below' HBW.out.size HBW.out (by
   rintro k (e|e|e)
   ·omega
   ·cases e
   ·cases e)
  rw[hn6,hnl] at hrc
  rw[hnl] at y0
  have HR:=Lib.hid hrc
  clear hrc hst6 hR6 hn6 hnl q6 z0 zf zl
  go_wp2_with fail
  go_ret2
  exact ⟨a9,c9,rfl,HR.out,hb6⟩
 ·have h0':(trE r C cs != 0)=true:=by simpa using h0
  have hl:trL r C cs=[]:=if_neg h0
  rw[hl]
  generalize trE r C cs=er at HF h0' ⊢
  clear h0 h hl
  go_enter Tryz.func67,Tryz.ntmps67
  go_upto_region 1 with fail
  have fB:Below w.heap.size w (w.alloc (.cells #[.int .i64 r,.int .i64 C,.slice a n c] 24)):=(Below.refl _ _).alloc (Nat.le_refl _) _
  have FQ:Hid ((w.alloc (.cells #[.int .i64 r,.int .i64 C,.slice a n c] 24)).heap[w.heap.size]?=some (.cells #[.int .i64 r,.int .i64 C,.slice a n c] 24 (0,0))):=World.alloc_heap_new _ _
  generalize (w.alloc (.cells #[.int .i64 r,.int .i64 C,.slice a n c] 24))=W0 at fB FQ ⊢
  obtain ⟨x0,x1,x2,xl⟩:=c3_of FQ.out
  refine wp_region_S (fun w'=>∃u,w'=over (W0) u) [8,7,6,5] [(0,0),(0,2),(0,3),(0,4),(1,1),(2,5),(2,6),(2,7),(2,8)] (by kernel_rfl) (by kernel_rfl) (by exact ⟨_,below_over (by repeat (first|assumption|exact Below.refl _ _|refine keep_drew ?_|refine keep_alloc ?_ _|refine keep_trans ?_ (by assumption)))⟩) ?_
  dsimp only[pickOps,nthOp]
  repeat (first|(refine wpS_skip rfl (fun K hK=>?_);go_big_quiet_op;refine hK _ ?_;clear hK K)|(refine wpS_quiet rfl rfl (fun K hK=>?_);go_big_quiet_op;refine hK _ ?_;clear hK K)|(refine wpS_loud ?_;go_wp2_with (first|(go_at_call 58;refine (HCK.out _ (by (repeat (first|assumption|exact Below.refl _ _|refine keep_drew ?_|refine keep_alloc ?_ _|refine keep_trans ?_ (by assumption))))).mono ?_;rintro _ w1 ⟨rfl,hb1'⟩;have hb1:Below W0.heap.size W0 w1:=(by (repeat (first|assumption|exact Below.refl _ _|refine keep_drew ?_|refine keep_alloc ?_ _|refine keep_trans ?_ (by assumption)))))|(go_at_call 93;refine (twhen_c _ _ _).mono ?_;rintro _ w2 ⟨rfl,rfl⟩)|(go_at_call 92;refine (tfirst_c _ _ _ _ _ (IC.new2 _ _ _ _)).mono ?_;rw[HF.out];rintro _ w3 ⟨rfl,rfl⟩));refine ⟨?_,?_⟩;focus (exact ⟨_,below_over (by repeat (first|assumption|exact Below.refl _ _|refine keep_drew ?_|refine keep_alloc ?_ _|refine keep_trans ?_ (by assumption)))⟩)))
  refine wpS_late _ _ _ rfl ?_
  dsimp only[List.map]
  go_wp2_with (first|(go_at_call 58;refine (HCK.out _ (by (repeat (first|assumption|exact Below.refl _ _|refine keep_drew ?_|refine keep_alloc ?_ _|refine keep_trans ?_ (by assumption))))).mono ?_;rintro _ w1 ⟨rfl,hb1'⟩;have hb1:Below W0.heap.size W0 w1:=(by (repeat (first|assumption|exact Below.refl _ _|refine keep_drew ?_|refine keep_alloc ?_ _|refine keep_trans ?_ (by assumption)))))|(go_at_call 93;refine (twhen_c _ _ _).mono ?_;rintro _ w2 ⟨rfl,rfl⟩)|(go_at_call 92;refine (tfirst_c _ _ _ _ _ (IC.new2 _ _ _ _)).mono ?_;rw[HF.out];rintro _ w3 ⟨rfl,rfl⟩))
  refine NoPanic.normal ?_
  go_wp2_with fail
  go_ret2
  exact ⟨none,0,rfl,rc_nil _,by (repeat (first|assumption|exact Below.refl _ _|refine keep_drew ?_|refine keep_alloc ?_ _|refine keep_trans ?_ (by assumption)))⟩
end
section
open Go Go.RowKit Go.Maps
attribute [local go_sem] over_cell
attribute [local go_sem] Oper.semAt_some
theorem zeroBool (w:World):(zeroValue 4).run Tryz.prog w = .ok (.bool false) w:=by kernel_rfl
structure MtW (B N n c:Nat) (a:Option Addr) (l:List Int) (bl b6 bm:Nat) (cs:List Int) (W:World):Prop where
 ql:W.heap[bl]?=some (.cells #[.int .i64 (N:Int),.int .i64 (N:Int),.slice a n c] 24 (0,0))
 q6:W.heap[b6]?=some (.cells #[.map (some bm)] 109 (0,0))
 ic:Sure (fun k=>k<B) W (fun w'=>IC w' a n l)
 map:∃L:List Pr,(∀z,z∈L→PrIn N z)∧MapC W Tryz.prog 62 4 kapP bm L (pairG N l cs)
theorem MtW.keep {B N n c:Nat} {a:Option Addr} {l:List Int} {bl b6 bm:Nat} {cs:List Int} {W W':World} (h:MtW B N n c a l bl b6 bm cs W) (hs:W.heap.size≤W'.heap.size) (hk:∀k,k<B∨k=bl∨k=b6∨k=bm→W'.heap[k]?=W.heap[k]?):MtW B N n c a l bl b6 bm cs W' where
 ql:=(hk _ (.inr (.inl rfl))).trans h.ql
 q6:=(hk _ (.inr (.inr (.inl rfl)))).trans h.q6
 ic:=h.ic.keep hs (fun k e=>hk k (.inl e))
 map:=by
  obtain ⟨L,h1,h2⟩:=h.map
  exact ⟨L,h1,h2.block (hk _ (.inr (.inr (.inr rfl))))⟩
theorem mfree_c (B N n c:Nat) (a:Option Addr) (l:List Int) (bl b6 bm:Nat) (cs:List Int) (W:World) (h:MtW B N n c a l bl b6 bm cs W) (S:Sq N l) (hn:n=N*N) (k x:Nat) (hk:k<N*N) (hx:x<N) (hop:∀d,k≤d→d<N*N→cs[d]?.getD 0<0) :
  Calls Tryz.prog 96 #[.int .i64 (k:Int),.int .i64 (x:Int),.pointer (some ⟨b6,0,none⟩),.pointer (some ⟨bl,0,none⟩)] W fun e w'=>e = .returned (.bool (pairB l k (x:Int) cs))∧Below W.heap.size W w':=by
 have hb:=h.map
 obtain ⟨K,hKin,hM⟩:=hb
 have hKl:=prs_few hM.nodup hKin
 have hNN:N*N≤16*16:=Nat.mul_le_mul S.n2 S.n2
 have hkI:(k:Int)<(n:Int):=by omega
 obtain ⟨b,off,rfl,hbl,hc⟩:=h.ic.here.2 k (by omega)
 obtain ⟨x0,x1,x2,xl⟩:=c3_of h.ql
 obtain ⟨y0,yf,yl⟩:=c1_of h.q6
 have hX:=S.num k
 have HX0:Hid (∃X,X=l[k]?.getD 0):=⟨_,rfl⟩
 obtain ⟨X,hXe⟩:=HX0.out
 rw[← hXe] at hc hX
 have hN2:=S.n2
 obtain ⟨p,hp⟩:∃p:Pr,p=⟨(X,(x:Int)),wf64 (by omega) (by omega),wf64 (by omega) (by omega)⟩:=⟨_,rfl⟩
 have HKY:Hid (keyOf Tryz.prog 62 (.agg #[.int .i64 X,.int .i64 (x:Int)])=some (kapP p)):=by unfold Hid;rw[hp];exact keyP ⟨(X,(x:Int)),wf64 (by omega) (by omega),wf64 (by omega) (by omega)⟩
 have hpx:p.1.1=X∧p.1.2=(x:Int):=by rw[hp];exact ⟨rfl,rfl⟩
 have HPX:=Lib.hid hpx
 have HM:=Lib.hid hM
 have HE:=Lib.hid (pair_free (x:=x) hk hop (z:=p) (hpx.1.trans hXe) hpx.2)
 generalize pairB l k (x:Int) cs=pb at HE ⊢
 obtain ⟨g,hg⟩:∃g:Pr→Bool,g=pairG N l cs:=⟨_,rfl⟩
 rw[← hg] at HM HE
 clear hg hp hXe HX0 hM h hn hpx S hop
 go_enter Tryz.func96,Tryz.ntmps96
 go_upto_region 1 with fail
 refine wp_region_S (fun w'=>∃u,w'=over (W) u) [10] [(0,0),(0,1),(0,2),(0,3),(0,4),(0,5),(0,6),(0,7),(1,8),(0,9),(2,10)] (by kernel_rfl) (by kernel_rfl) (by exact ⟨_,below_over (by repeat (first|assumption|exact Below.refl _ _|refine keep_drew ?_|refine keep_alloc ?_ _|refine keep_trans ?_ (by assumption)))⟩) ?_
 dsimp only[pickOps,nthOp]
 repeat (first|(refine wpS_skip rfl (fun K hK=>?_);go_big_quiet_op;refine hK _ ?_;clear hK K)|(refine wpS_quiet rfl rfl (fun K hK=>?_);go_big_quiet_op;refine hK _ ?_;clear hK K)|(refine wpS_loud ?_;go_wp2_with ((refine wpList_lookB _ rfl _ _ 109 rfl 62 4 pairKeyed Tryz.underlying109 Tryz.underlying4 (zeroBool _) kapP bm K.length g rfl (HM.out.toB.mono (by (repeat (first|assumption|exact Below.refl _ _|refine keep_drew ?_|refine keep_alloc ?_ _|refine keep_trans ?_ (by assumption)))) (HM.out.lt)) _ p rfl HKY.out ?_));refine ⟨?_,?_⟩;focus (exact ⟨_,below_over (by repeat (first|assumption|exact Below.refl _ _|refine keep_drew ?_|refine keep_alloc ?_ _|refine keep_trans ?_ (by assumption)))⟩)))
 refine wpS_late _ _ _ rfl ?_
 dsimp only[List.map]
 go_wp2_with ((refine wpList_lookB _ rfl _ _ 109 rfl 62 4 pairKeyed Tryz.underlying109 Tryz.underlying4 (zeroBool _) kapP bm K.length g rfl (HM.out.toB.mono (by (repeat (first|assumption|exact Below.refl _ _|refine keep_drew ?_|refine keep_alloc ?_ _|refine keep_trans ?_ (by assumption)))) (HM.out.lt)) _ p rfl HKY.out ?_))
 refine NoPanic.normal ?_
 go_wp2_with fail
 go_ret
 exact ⟨ret_bool HE.out,by (repeat (first|assumption|exact Below.refl _ _|refine keep_drew ?_|refine keep_alloc ?_ _|refine keep_trans ?_ (by assumption)))⟩
theorem mnote_c (B N n c:Nat) (a:Option Addr) (l:List Int) (bl b6 bm:Nat) (cs:List Int) (W:World) (h:MtW B N n c a l bl b6 bm cs W) (S:Sq N l) (hn:n=N*N) (k x:Nat) (hk:k<N*N) (hx:x<N) (v:Bool) (cs':List Int)
  (hne:bm≠bl∧bm≠b6∧B≤bm) (hset:∀p:Pr,p.1.1=l[k]?.getD 0∧p.1.2=(x:Int)→∀z,(if z=p then v else pairG N l cs z)=pairG N l cs' z) :
  Calls Tryz.prog 97 #[.int .i64 (k:Int),.int .i64 (x:Int),.bool v,.pointer (some ⟨b6,0,none⟩),.pointer (some ⟨bl,0,none⟩)] W fun e w'=>e = .returned (.tuple #[])∧MtW B N n c a l bl b6 bm cs' w'∧Stays (fun k=>k=bm) W w':=by
 have hb:=h.map
 obtain ⟨K,hKin,hM⟩:=hb
 have hKl:=prs_few hM.nodup hKin
 have hNN:N*N≤16*16:=Nat.mul_le_mul S.n2 S.n2
 have hkI:(k:Int)<(n:Int):=by omega
 obtain ⟨b,off,rfl,hbl,hc⟩:=h.ic.here.2 k (by omega)
 obtain ⟨x0,x1,x2,xl⟩:=c3_of h.ql
 obtain ⟨y0,yf,yl⟩:=c1_of h.q6
 have hX:=S.num k
 have HX0:Hid (∃X,X=l[k]?.getD 0):=⟨_,rfl⟩
 obtain ⟨X,hXe⟩:=HX0.out
 rw[← hXe] at hc hX
 have hN2:=S.n2
 obtain ⟨p,hp⟩:∃p:Pr,p=⟨(X,(x:Int)),wf64 (by omega) (by omega),wf64 (by omega) (by omega)⟩:=⟨_,rfl⟩
 have HKY:Hid (keyOf Tryz.prog 62 (.agg #[.int .i64 X,.int .i64 (x:Int)])=some (kapP p)):=by unfold Hid;rw[hp];exact keyP ⟨(X,(x:Int)),wf64 (by omega) (by omega),wf64 (by omega) (by omega)⟩
 have hpx:p.1.1=X∧p.1.2=(x:Int):=by rw[hp];exact ⟨rfl,rfl⟩
 have HPX:=Lib.hid hpx
 have HM:=Lib.hid hM
 have HS:=Lib.hid (hset p ⟨hpx.1.trans hXe,hpx.2⟩)
 have H:=Lib.hid h
 have HKI:Hid (∀z,z∈addK K p→PrIn N z):=fun z hz=>by
  rcases mem_addK.1 hz with e|e
  ·rw[e];exact ⟨by rw[HPX.out.1];exact hX.1,by rw[HPX.out.1];exact hX.2,by rw[HPX.out.2];omega,by rw[HPX.out.2];omega⟩
  ·exact hKin z e
 obtain ⟨g,hg⟩:∃g:Pr→Bool,g=pairG N l cs:=⟨_,rfl⟩
 rw[← hg] at HM HS
 clear hg hp hXe HX0 hM h hn hpx S hset hKin
 go_enter Tryz.func97,Tryz.ntmps97
 refine wp_region_S (fun w'=>∃u,w'=over (W) u) [9] [(0,0),(0,1),(0,2),(0,3),(0,4),(0,5),(0,6),(0,7),(0,8),(2,9)] (by kernel_rfl) (by kernel_rfl) (by exact ⟨_,below_over (by repeat (first|assumption|exact Below.refl _ _|refine keep_drew ?_|refine keep_alloc ?_ _|refine keep_trans ?_ (by assumption)))⟩) ?_
 dsimp only[pickOps,nthOp]
 repeat (first|(refine wpS_skip rfl (fun K hK=>?_);go_big_quiet_op;refine hK _ ?_;clear hK K)|(refine wpS_quiet rfl rfl (fun K hK=>?_);go_big_quiet_op;refine hK _ ?_;clear hK K))
 refine wpS_late _ _ _ rfl ?_
 dsimp only[List.map]
 go_wp2_with ((refine wpList_putC _ rfl _ _ _ 109 rfl 62 4 pairKeyed Tryz.underlying109 Tryz.underlying4 kapP injP bm K g rfl (HM.out.mono (show Below W.heap.size W _ by (repeat (first|assumption|exact Below.refl _ _|refine keep_drew ?_|refine keep_alloc ?_ _|refine keep_trans ?_ (by assumption)))) (HM.out.lt)) (by unfold maxLen;omega) _ p v rfl rfl HKY.out ?_;intro w6 hM6 hgr6))
 refine NoPanic.normal ?_
 go_wp2_with fail
 go_end0
 have hst:Stays (fun k=>k=bm) W w6:=(Below.stays (show Below W.heap.size W _ by (repeat (first|assumption|exact Below.refl _ _|refine keep_drew ?_|refine keep_alloc ?_ _|refine keep_trans ?_ (by assumption)))) _).trans (Stays.grown hgr6 (fun k e=>by cases e;rfl)) (fun _ e => .inl e)
 refine ⟨rfl,⟨hst.q H.out.ql (fun e=>hne.1 e.symm),hst.q H.out.q6 (fun e=>hne.2.1 e.symm),?_,⟨_,HKI.out,hM6.same HS.out⟩⟩,hst⟩
 exact H.out.ic.keep hst.size (fun k e=>hst.block k (by have:=HM.out.lt;omega) (fun e2=>by omega))
end
end Go.Proofs.YtmfpdakaeagdpaaGreat
