/- Texts J34 to J34 of this proof, in one file. -/
import Derived.Test.YtmfpdakaeagdpaaGreatW01
import Derived.Test.YtmfpdakaeagdpaaGreatW02
import Derived.Test.YtmfpdakaeagdpaaGreatW03
import Derived.Test.YtmfpdakaeagdpaaGreatW04
import Derived.Test.YtmfpdakaeagdpaaGreatW05
import Derived.Test.YtmfpdakaeagdpaaGreatW06
import Derived.Test.YtmfpdakaeagdpaaGreatW07
import Derived.Test.YtmfpdakaeagdpaaGreatW08
import Derived.Test.YtmfpdakaeagdpaaGreatW09
import Derived.Below
import Derived.BigFrame
import Derived.BigQuiet
import Derived.Deep.CutBlock
import Derived.Deep.CutRange
import Derived.Deep.LoopGhost
import Derived.Deep.Quiet
import Derived.Deep.RegionHeld3
import Derived.DeepKeys4
import Derived.KernelRfl
import Derived.Laws.BitsAllLaws
import Derived.Lib.Hide
import Derived.Lib.SliceRun
import Derived.LoopIn
import Derived.LoopNIn
import Derived.Maps.AppendAt
import Derived.Maps.OwnIn
import Derived.Maps.OwnSet
import Derived.OneCell
import Derived.OrdersHeld
import Derived.OrdersIn
import Derived.OwnWalkIn
import Derived.RangeFuncBound
import Derived.RangeFuncCalls
import Derived.RangeFuncLeaves
import Derived.RangeFuncNested
import Derived.Shelf.Abstract
import Derived.Still
import Derived.TacticsIn
import Derived.TacticsInMore
import Derived.Test.YtmfpdakaeagdpaaGreatProg
import Derived.WalkKit
import Derived.WalkLawsBesides
import Derived.WalkSpells
import Derived.WideKeyPair
namespace Go.Proofs.YtmfpdakaeagdpaaGreat
set_option maxRecDepth 100000
set_option maxHeartbeats 16000000
section
open Go Go.RowKit
attribute [local go_sem] over_cell
attribute [local go_sem] Oper.semAt_some
theorem hold2_c0 (v0 v1:Value) (T:TypeId) (b:Nat) (u:World):(hold (.cells #[v0,v1] T (0,0)) b u).cell? ⟨b,0,none⟩=some v0:=q_cell (hold_heap _ b u) 0
theorem hold2_c1 (v0 v1:Value) (T:TypeId) (b:Nat) (u:World):(hold (.cells #[v0,v1] T (0,0)) b u).cell? ⟨b,1,none⟩=some v1:=q_cell (hold_heap _ b u) 1
attribute [local go_sem] hold2_c0 hold2_c1
theorem Left.trans {c:CC} {M M':Nat→Prop} {A B D:World} (h:Left c M A B) (k:Left c M' B D) (hM:∀j,M j→M' j):Left c M A D :=
 ⟨Nat.le_trans h.1 k.1,fun j hl hm h1 h2 h3=>(k.2 j (Nat.lt_of_lt_of_le hl h.1) (hM j hm) h1 h2 h3).trans (h.2 j hl hm h1 h2 h3)⟩
theorem Left.of_stays {c:CC} {M:Nat→Prop} {A B:World} {S:Nat→Prop} (h:Stays S A B) (hS:∀j,S j→j=c.g∨j=c.bT∨c.MN j):Left c M A B :=
 ⟨h.size,fun j hl _ h1 h2 h3=>h.block j hl (fun e=>by rcases hS j e with e|e|e <;> contradiction)⟩
theorem Left.of_below {c:CC} {M:Nat→Prop} {A B:World} (h:Below A.heap.size A B):Left c M A B:=⟨h.size,fun j hl _ _ _ _=>h.block j hl⟩
def CI (c:CC) (J:List (Value × List Int)→(Nat→Prop)→World→Prop) (M:Nat→Prop) (W:World) (R K:Nat) (f k:Nat) (cs:List Int) (pre:List (Value × List Int)) (x:Nat) (wr:World):Prop :=
 ∃F1 xs,CS c wr cs F1 k∧Left c M W wr∧wr.heap[W.heap.size]?=some (.cells #[.int .u32 (R:Int),.int .u32 (K:Int)] 157 (0,0))∧xs.map Prod.snd=accC c.n c.ok f k cs x∧J (pre++xs) (fun j=>M j∨j=W.heap.size) wr
theorem CI.below {c:CC} (hx:CFix c) {J:List (Value × List Int)→(Nat→Prop)→World→Prop} (hJ:StableM J) {M:Nat→Prop} {W:World} {R K f k:Nat} {cs:List Int} {pre:List (Value × List Int)} {x:Nat} {wr w1:World} (h:CI c J M W R K f k cs pre x wr) (hb:Below wr.heap.size wr w1)
  (hc:childC c.n c.ok f k cs x=[]):CI c J M W R K f k cs pre (x+1) w1:=by
 obtain ⟨F1,xs,h1,h2,h3,h4,h5⟩:=h
 exact ⟨F1,xs,h1.below hx hb,h2.trans (Left.of_below (M:=M) hb) (fun _ e=>e),keepq hb h3,by rw[accC_succ,hc,List.append_nil];exact h4,hJ _ _ _ _ _ h5 (Below.stays hb _) (fun _ e => .inl e)⟩
theorem fillS_c (c:CC) (hx:CFix c) (J Jx:List (Value × List Int)→(Nat→Prop)→World→Prop) (hJs:StableM J) (hJxs:StableM Jx) (d:Nat)
  (ih:∀(k:Nat) (W:World) (cs F:List Int) (M:Nat→Prop) (pre:List (Value × List Int)),k+d=c.m→CS c W cs F k→(∀k,c.M k→M k)→(∀k,M k→k<W.heap.size)→pre.map Prod.snd++compP c.n c.ok d k cs <+: c.L0→J pre M W →
   Calls Tryz.prog 156 (#[.int .i64 (k:Int)]++c.caps) W (FillQ c J Jx M pre (compP c.n c.ok d k cs) k cs W))
  (k:Nat) (W:World) (cs F:List Int) (M:Nat→Prop) (pre:List (Value × List Int)) (hd:k+(d+1)=c.m) (h:CS c W cs F k) (hM1:∀k,c.M k→M k) (hM2:∀k,M k→k<W.heap.size) (hL:pre.map Prod.snd++compP c.n c.ok (d+1) k cs <+: c.L0) (h0:J pre M W) :
  Calls Tryz.prog 156 (#[.int .i64 (k:Int)]++c.caps) W (FillQ c J Jx M pre (compP c.n c.ok (d+1) k cs) k cs W):=by
 have hm2:=hx.m2
 have hkm:k<c.m:=by omega
 have hkI:(k:Int)<(c.m:Int):=by omega
 have hkM:((k:Int)==(c.m:Int))=false:=by rw[beq_eq_false_iff_ne];omega
 have cC:W.cell? ⟨c.bC,0,none⟩=some (.slice (some ⟨c.g,0,none⟩) c.m c.cap):=q_cell h.cb.qC 0
 have cP:W.cell? ⟨c.bP,2,none⟩=some (.slice c.aP c.m c.cP):=q_cell h.cb.qP 2
 have cF:W.cell? ⟨c.bFi,0,none⟩=some (.func (.func 156) #[] c.caps):=q_cell h.cb.qFi 0
 unfold CC.caps at cF
 have lC:=q_lt h.cb.qC
 have lP:=q_lt h.cb.qP
 have lF:=q_lt h.cb.qFi
 have HIC:=Lib.hid h.cb.icp.here
 obtain ⟨bp,op,hap,hbp,hcp⟩:=HIC.out.2 k hkm
 have HIH:=Lib.hid ih
 have HJS:=Lib.hid hJs
 have HJXS:=Lib.hid hJxs
 have H:=Lib.hid h
 have H0:=Lib.hid h0
 have HL0:=Lib.hid hL
 have HD:=Lib.hid hd
 have HAP:=Lib.hid hap
 rw[hap] at cP
 have hck:cs[k]?.getD 0=c.ps[k]?.getD 0:=h.gc.hi k (Nat.le_refl _)
 have HCK:=Lib.hid hck
 clear ih hJs hJxs h h0 hd hap hck hL
 by_cases hg:0≤c.ps[k]?.getD 0
 ·have HG:=Lib.hid hg
  have HCP:=Lib.hid (compP_given (n:=c.n) (ok:=c.ok) (f:=d) (k:=k) (cs:=cs) (by rw[HCK.out];exact hg))
  rw[HCP.out]
  have HC:Hid (Calls Tryz.prog 156 (#[.int .i64 ((k:Int)+1)]++c.caps) W (FillQ c J Jx M pre (compP c.n c.ok d (k+1) cs) k cs W)):=by
   have h1:=HIH.out (k+1) W cs F M pre (by have:=HD.out;omega) ⟨H.out.cb,H.out.tk,H.out.f,H.out.nt,H.out.gc.step (by rw[HCK.out];exact hg),fun j hj=>H.out.agree j (by
    rcases hj with e|e
    ·rcases Nat.lt_or_ge j k with e2|e2
     ·exact .inl e2
     ·rw[show j=k by omega];exact .inr hg
    ·exact .inr e)⟩ hM1 hM2 (by have h9:=HL0.out;rw[HCP.out] at h9;exact h9) H0.out
   rw[show (((k+1:Nat)):Int)=(k:Int)+1 from by omega] at h1
   refine h1.mono ?_
   rintro e W' ⟨h2,⟨F',h3⟩,h4⟩
   exact ⟨h2,⟨F',h3.cb,h3.tk,h3.f,h3.nt,H.out.gc,fun j hj=>h3.agree j (hj.imp (fun e=>by omega) id)⟩,h4⟩
  unfold CC.caps at HC ⊢
  simp only[List.append_toArray,List.cons_append,List.nil_append] at HC ⊢
  obtain ⟨y,hy⟩:∃y,y=c.ps[k]?.getD 0:=⟨_,rfl⟩
  rw[← hy] at hcp hg
  have hyn:(y != -1)=true:=by rw[bne_iff_ne];omega
  clear hy HCP
  go_enter Tryz.func156,Tryz.ntmps156
  go_wp2_with fail
  refine HC.out.mono ?_
  rintro e W' ⟨h2,h3,(⟨rfl,h4⟩|⟨rfl,h4⟩)⟩
  ·have HL:=Lib.hid h2
   have HS3:=Lib.hid h3
   have HJ4:=Lib.hid h4
   clear h2 h3 h4
   go_wp2_with fail
   go_ret
   exact ⟨HL.out,HS3.out,.inl ⟨rfl,HJ4.out⟩⟩
  ·have HL:=Lib.hid h2
   have HS3:=Lib.hid h3
   have HJ4:=Lib.hid h4
   clear h2 h3 h4
   go_wp2_with fail
   go_ret
   exact ⟨HL.out,HS3.out,.inr ⟨rfl,HJ4.out⟩⟩
 ·have hps0:c.ps[k]?.getD 0<0:=by omega
  have HPS:=Lib.hid hps0
  have hps:=hx.neg k hps0
  have hck0:cs[k]?.getD 0<0:=by rw[HCK.out];exact hps0
  have HL1:=Lib.hid HL0.out
  unfold Hid at HL1
  rw[compP_open hck0] at HL1 ⊢
  replace HL1:=Lib.hid HL1
  clear HL0
  have HL0:=HL1
  clear HL1
  rw[hps] at hcp
  clear hg hps hps0
  have hkn:k<c.n*c.n:=by rw[← hx.mm.out];exact hkm
  obtain ⟨q,hq⟩:∃q,q=k / c.n:=⟨_,rfl⟩
  obtain ⟨r,hr2⟩:∃r,r=k % c.n:=⟨_,rfl⟩
  have hn1:=hx.n1
  have hn2:=hx.n2
  have hqb:q<16:=Nat.lt_of_lt_of_le (by rw[hq];exact Nat.div_lt_of_lt_mul hkn) hn2
  have hrb:r<16:=Nat.lt_of_lt_of_le (by rw[hr2];exact Nat.mod_lt _ hn1) hn2
  have hdv:wrap64 ((k:Int) / (c.n:Int))=(q:Int):=by rw[divw (by omega),hq]
  have hmv:(k:Int) % (c.n:Int)=(r:Int):=by rw[modw,hr2]
  have HQ:=Lib.hid hq
  have HR2:=Lib.hid hr2
  have hnI:(c.n:Int)≠0:=by omega
  have cN:W.cell? ⟨c.bN,0,none⟩=some (.int .i64 (c.n:Int)):=q_cell H.out.cb.qN 0
  have lN:=q_lt H.out.cb.qN
  have lT:=H.out.tk.lt
  have hqI:(q:Int)<16:=Int.ofNat_lt.2 hqb
  have hrI:(r:Int)<16:=Int.ofNat_lt.2 hrb
  obtain ⟨R,hR⟩:∃R,R=rowM c.n cs c.m q:=⟨_,rfl⟩
  obtain ⟨K,hK⟩:∃K,K=colM c.n cs c.m r:=⟨_,rfl⟩
  have HRE:=Lib.hid hR
  have HKE:=Lib.hid hK
  have tR:=(H.out.tk.row q hqb).1
  have tK:=(H.out.tk.col r hrb).1
  rw[← hR] at tR
  rw[← hK] at tK
  have hR32:R<4294967296:=by rw[hR];exact mask32 hn2 H.out.gc.lt
  have hK32:K<4294967296:=by rw[hK];exact mask32 hn2 H.out.gc.lt
  clear hq hr2 hR hK hck0 hkn
  unfold CC.caps
  simp only[List.append_toArray,List.cons_append,List.nil_append]
  go_enter Tryz.func156,Tryz.ntmps156
  go_wp2_with fail
  refine wp_region_S (fun w'=>∃u,w'=over (W) u) [7] [(0,0),(0,1),(0,2),(0,3),(0,4),(0,5),(1,6),(2,7)] (by kernel_rfl) (by kernel_rfl) (by exact ⟨_,below_over (by repeat (first|assumption|exact Below.refl _ _|refine keep_drew ?_|refine keep_alloc ?_ _|refine keep_trans ?_ (by assumption)))⟩) ?_
  dsimp only[pickOps,nthOp]
  repeat (first|(refine wpS_skip rfl (fun K hK=>?_);go_big_quiet_op;refine hK _ ?_;clear hK K)|(refine wpS_quiet rfl rfl (fun K hK=>?_);go_big_quiet_op;refine hK _ ?_;clear hK K)|(refine wpS_loud ?_;go_wp2_with (fail);refine ⟨?_,?_⟩;focus (exact ⟨_,below_over (by repeat (first|assumption|exact Below.refl _ _|refine keep_drew ?_|refine keep_alloc ?_ _|refine keep_trans ?_ (by assumption)))⟩)))
  refine wpS_late _ _ _ rfl ?_
  dsimp only[List.map]
  go_wp2_with (fail)
  refine NoPanic.normal ?_
  rw[hdv,hmv]
  clear hdv hmv
  go_wp2_with fail
  refine wp_region_S (fun w'=>∃u,w'=over (W) u) [10] [(0,0),(0,1),(0,2),(0,3),(0,4),(0,5),(0,6),(0,7),(0,8),(1,9),(2,10)] (by kernel_rfl) (by kernel_rfl) (by exact ⟨_,below_over (by repeat (first|assumption|exact Below.refl _ _|refine keep_drew ?_|refine keep_alloc ?_ _|refine keep_trans ?_ (by assumption)))⟩) ?_
  dsimp only[pickOps,nthOp]
  repeat (first|(refine wpS_skip rfl (fun K hK=>?_);go_big_quiet_op;refine hK _ ?_;clear hK K)|(refine wpS_quiet rfl rfl (fun K hK=>?_);go_big_quiet_op;refine hK _ ?_;clear hK K)|(refine wpS_loud ?_;go_wp2_with (fail);refine ⟨?_,?_⟩;focus (exact ⟨_,below_over (by repeat (first|assumption|exact Below.refl _ _|refine keep_drew ?_|refine keep_alloc ?_ _|refine keep_trans ?_ (by assumption)))⟩)))
  refine wpS_late _ _ _ rfl ?_
  dsimp only[List.map]
  go_wp2_with (fail)
  refine NoPanic.normal ?_
  have hB1:Below W.heap.size W (W.alloc (.cells #[.int .u32 (R:Int),.int .u32 (K:Int)] 157)).drew.drew:=((Below.refl _ _).alloc (Nat.le_refl _) _).drew.drew
  have hqb1:(W.alloc (.cells #[.int .u32 (R:Int),.int .u32 (K:Int)] 157)).drew.drew.heap[W.heap.size]?=some (.cells #[.int .u32 (R:Int),.int .u32 (K:Int)] 157 (0,0)):=World.alloc_heap_new _ _
  generalize (W.alloc (.cells #[.int .u32 (R:Int),.int .u32 (K:Int)] 157)).drew.drew=W1 at hB1 hqb1 ⊢
  have HCI0:Hid (CI c J M W R K d k cs pre 0 W1):=⟨F,[],H.out.below hx hB1,Left.of_below hB1,hqb1,rfl,by rw[List.append_nil];exact HJS.out _ _ _ _ _ H0.out (Below.stays hB1 _) (fun j e=>e.imp id (fun e=>by omega))⟩
  have cN1:W1.cell? ⟨c.bN,0,none⟩=some (.int .i64 (c.n:Int)):=q_cell (keepq hB1 H.out.cb.qN) 0
  have lN1:=q_lt (keepq hB1 H.out.cb.qN)
  clear cC cF lC lP lF cP hbp hcp cN lN lT tR tK hB1 hqb1
  go_wp2_with fail
  clear cN1 lN1
  go_loopw [14,15,53] (fun _ _ s wr=>∃x:Nat,x≤c.n∧s = .int .i64 x∧Hid (CI c J M W R K d k cs pre x wr)) (fun _ _ s _=>c.n - (intOf s).toNat)
  case atStart=>exact ⟨0,by omega,rfl,HCI0⟩
  case round =>
   obtain ⟨x,hxn,rfl,hI⟩:=hrel
   by_cases hlt:x<c.n
   ·obtain ⟨F1,xs,hs1,hl1,hq1,hxs,hJ1⟩:=hI.out
    have hxI:(x:Int)<(c.n:Int):=Int.ofNat_lt.2 hlt
    have hcf:=hx.side.frun
    have hnf:=hx.side.nrun
    have cFr:wr.cell? ⟨c.bFr,0,none⟩=some (.func (.func c.fk) #[] c.fcaps):=q_cell hs1.cb.qFr 0
    have lFr:=q_lt hs1.cb.qFr
    have HFREE:=Lib.hid (hx.side.free cs k x wr hs1.nt hs1.cb.kLt hs1.gc hkm hlt)
    have HFB:Hid (freeB c.n cs k (x:Int)=!(R.testBit x||K.testBit x)):=by
     unfold Hid
     rw[free_bits (by rw[hs1.gc.len];exact hkm) (by rw[HCK.out];exact HPS.out),hs1.gc.len,HRE.out,HKE.out,HQ.out,HR2.out]
    have HS1:=Lib.hid hs1
    have HCH:Hid (childC c.n c.ok d k cs x=if (c.ok k (x:Int) cs&&freeB c.n cs k (x:Int))=true then compP c.n c.ok d (k+1) (cs.set k (x:Int)) else []):=rfl
    obtain ⟨okb,hokb⟩:∃b,b=c.ok k (x:Int) cs:=⟨_,rfl⟩
    have HOKB:=Lib.hid hokb
    rw[← hokb] at HFREE HCH
    rw[HFB.out] at HCH
    have HL1:=Lib.hid hl1
    have HQ1:=Lib.hid hq1
    have HXS:=Lib.hid hxs
    have HJ1:=Lib.hid hJ1
    clear hokb hs1 hl1 hq1 hxs hJ1
    cases okb with
    | false =>
     have HC0:Hid (childC c.n c.ok d k cs x=[]):=HCH.out
     go_wp2_with (first|(with_reducible refine HFREE.out.mono ?_;rintro _ w1 ⟨rfl,hb1⟩))
     go_roundw
     case rel=>exact ⟨x+1,by omega,by go_num,hI.out.below hx HJS.out hb1 HC0.out⟩
     case measure=>simp[intOf];omega
    | true =>
     have HTK:=Lib.hid (fun w1 (hb:Below wr.heap.size wr w1)=>show (w1.cell? ⟨c.bT,q,none⟩=some (.int .u32 (R:Int))∧w1.cell? ⟨c.bT,16+r,none⟩=some (.int .u32 (K:Int)))∧(w1.frozen? ⟨c.bT,q,none⟩=false∧w1.frozen? ⟨c.bT,16+r,none⟩=false)∧c.bT<w1.heap.size from by
      have h2:=(HS1.out.below hx hb).tk
      rw[HRE.out,HKE.out]
      exact ⟨⟨(h2.row q hqb).1,(h2.col r hrb).1⟩,⟨(h2.row q hqb).2,(h2.col r hrb).2⟩,h2.lt⟩)
     cases hbit:(R.testBit x||K.testBit x) with
     | true =>
      have HC0:Hid (childC c.n c.ok d k cs x=[]):=by
       unfold Hid
       rw[HCH.out,hbit];rfl
      have HPUT:=Lib.hid (fun w1 (hb:Below wr.heap.size wr w1)=>put_no c.bT q r R K (x:Int) w1 hqb hrb (by omega) (by omega) hR32 hK32 (HTK.out w1 hb).2.2 (HTK.out w1 hb).1.1 (HTK.out w1 hb).1.2 hbit)
      clear hbit
      go_wp2_with (first|(with_reducible refine HFREE.out.mono ?_;rintro _ w1 ⟨rfl,hb1⟩)|(go_at_call 155;refine (HPUT.out _ hb1).mono ?_;rintro _ w2 ⟨rfl,rfl⟩))
      go_roundw
      case rel=>exact ⟨x+1,by omega,by go_num,hI.out.below hx HJS.out hb1 HC0.out⟩
      case measure=>simp[intOf];omega
     | false =>
      have HPUT:=Lib.hid (fun w1 (hb:Below wr.heap.size wr w1)=>put_yes c.bT q r R K (x:Int) w1 hqb hrb (by omega) (by omega) hR32 hK32 (HTK.out w1 hb).2.2 (HTK.out w1 hb).1.1 (HTK.out w1 hb).1.2 (HTK.out w1 hb).2.1.1 (HTK.out w1 hb).2.1.2 hbit)
      have HC1:Hid (childC c.n c.ok d k cs x=compP c.n c.ok d (k+1) (cs.set k (x:Int))):=by
       unfold Hid
       rw[HCH.out,hbit];rfl
      clear hbit
      go_upto_region 11 with (first|(with_reducible refine HFREE.out.mono ?_;rintro _ w1 ⟨rfl,hb1⟩)|(go_at_call 155;refine (HPUT.out _ hb1).mono ?_;rintro _ w2 ⟨rfl,hw2⟩))
      have h1:=HS1.out.below hx hb1
      have hap:=fun j (e:c.K j)=>hx.apart j e
      have hst2:Stays (fun j=>j=c.bT) w1 w2:=by
       rw[hw2]
       exact ((Stays.setCell (S:=fun j=>j=c.bT) w1 (p:=⟨c.bT,q,none⟩) rfl _).trans (Stays.setCell (S:=fun j=>j=c.bT) _ (p:=⟨c.bT,16+r,none⟩) rfl _) (fun _ e => .inl e)).drew
      have htk2:Hid (TkW w2 c.bT (rowM c.n (cs.set k (x:Int)) c.m) (colM c.n (cs.set k (x:Int)) c.m)):=by
       unfold Hid
       rw[hw2]
       refine (h1.tk.put (i:=q) (j:=r) (n1:=R ||| 1 <<< x) (n2:=K ||| 1 <<< x) hqb hrb).same (fun i _=>?_) (fun i _=>?_)
       ·have:=rowM_set (n:=c.n) (cs:=cs) (k:=k) (x:=x) (by rw[h1.gc.len];exact hkm) (by rw[HCK.out];exact HPS.out) i
        rw[h1.gc.len] at this
        rw[this,← HQ.out,← HRE.out]
       ·have:=colM_set (n:=c.n) (cs:=cs) (k:=k) (x:=x) (by rw[h1.gc.len];exact hkm) (by rw[HCK.out];exact HPS.out) i
        rw[h1.gc.len] at this
        rw[this,← HR2.out,← HKE.out]
      have hcb2:=Lib.hid (h1.cb.stays hst2 (fun j e=>(hap j e).2.1))
      have hf2:=Lib.hid (owns_keep h1.f (fun j e hl=>hst2.block j hl (fun e2=>hx.gt (by cases e;exact e2))))
      have hnt2:=Lib.hid (hx.side.keep _ _ _ h1.nt hst2.size (fun j e=>hst2.block j (e.elim (h1.cb.kLt j) (h1.cb.mnLt j)) (fun e2=>e.elim (fun e=>(hap j e).2.1 e2) (fun e=>hx.tn (by rw[← e2];exact e)))))
      have HST2:Hid (Stays (fun j=>j=c.g∨j=c.bT∨c.MN j) wr w2):=(Below.stays hb1 _).trans (hst2.mono (fun j e => .inr (.inl e))) (fun _ e => .inl e)
      have hw2':((w1.setCell ⟨c.bT,q,none⟩ (.int .u32 ((R ||| 1 <<< x:Nat):Int))).setCell ⟨c.bT,16+r,none⟩ (.int .u32 ((K ||| 1 <<< x:Nat):Int))).drew=w2:=hw2.symm
      rw[hw2']
      clear hw2 hw2' hst2 h1 cFr lFr HFREE HPUT HTK
      have cC2:w2.cell? ⟨c.bC,0,none⟩=some (.slice (some ⟨c.g,0,none⟩) c.m c.cap):=q_cell hcb2.out.qC 0
      have lC2:=q_lt hcb2.out.qC
      obtain ⟨g9,cap9,x9,hv9,_,hcg,hfg,hgl,_⟩:=owns_free hf2.out k hkm
      simp only[CC.cV,Value.slice.injEq,Option.some.injEq,Addr.mk.injEq,and_true,true_and] at hv9
      obtain ⟨rfl,hv9⟩:=hv9
      clear hv9
      go_upto_region 12 with fail
      have hst3:Stays (fun j=>j=c.g) w2 (w2.setCell ⟨c.g,k,none⟩ (.int .i64 (x:Int))):=Stays.setCell (S:=fun j=>j=c.g) w2 (p:=⟨c.g,k,none⟩) rfl _
      have hf3:=Lib.hid (owns_set hf2.out k (.int .i64 (x:Int)))
      have htk3:=Lib.hid (htk2.out.stays hst3 (fun e=>hx.gt e.symm))
      have hcb3:=Lib.hid (hcb2.out.stays hst3 (fun j e=>(hap j e).1))
      have hnt3:=Lib.hid (hx.side.keep _ _ _ hnt2.out hst3.size (fun j e=>hst3.block j (e.elim (hcb2.out.kLt j) (hcb2.out.mnLt j)) (fun e2=>e.elim (fun e=>(hap j e).1 e2) (fun e=>hx.gn (by rw[← e2];exact e)))))
      have HST3:Hid (Stays (fun j=>j=c.g∨j=c.bT∨c.MN j) wr (w2.setCell ⟨c.g,k,none⟩ (.int .i64 (x:Int)))):=HST2.out.trans (hst3.mono (fun j e => .inl e)) (fun _ e => .inl e)
      rw[← List.map_set] at hf3
      clear cC2 lC2 hcg hfg hgl hst3 htk2 hcb2 hf2 hnt2 HST2
      generalize w2.setCell ⟨c.g,k,none⟩ (.int .i64 (x:Int))=W3 at hf3 htk3 hcb3 hnt3 HST3 ⊢
      have cNo:W3.cell? ⟨c.bNo,0,none⟩=some (.func (.func c.nk) #[] c.ncaps):=q_cell hcb3.out.qNo 0
      have lNo:=q_lt hcb3.out.qNo
      have HNT:=Lib.hid (hx.side.noteT cs k x W3 hnt3.out hcb3.out.kLt HS1.out.gc hkm hlt HPS.out HOKB.out.symm)
      go_upto_region 13 with (first|(with_reducible refine HNT.out.mono ?_;rintro _ W4 ⟨rfl,hnt4,hst4⟩))
      have hHS:HS1.out.gLt=HS1.out.gLt:=rfl
      have hWg:c.g<W.heap.size:=H.out.gLt
      have hWT:c.bT<W.heap.size:=H.out.tk.lt
      have hWN:¬c.MN W.heap.size:=fun e=>absurd (H.out.cb.mnLt _ e) (Nat.lt_irrefl _)
      have hWr:W.heap.size<wr.heap.size:=q_lt HQ1.out
      have hst04:Stays (fun j=>j=c.g∨j=c.bT∨c.MN j) wr W4:=HST3.out.trans (hst4.mono (fun j e => .inr (.inr e))) (fun _ e => .inl e)
      have hcs4:CS c W4 (cs.set k (x:Int)) (F1.set k (x:Int)) (k+1):=by
       have hF1l:=HS1.out.flen
       refine ⟨hcb3.out.stays hst4 (fun j e=>(hap j e).2.2),htk3.out.stays hst4 hx.tn,owns_keep hf3.out (fun j e hl=>hst4.block j hl (fun e2=>hx.gn (by cases e;exact e2))),hnt4,HS1.out.gc.put hkm HPS.out hlt,fun j hj=>?_⟩
       rw[gset_get (by rw[hF1l];exact hkm),gset_get (by rw[HS1.out.gc.len];exact hkm)]
       by_cases e:j=k
       ·rw[if_pos e,if_pos e]
       ·rw[if_neg e,if_neg e]
        exact HS1.out.agree j (hj.imp (fun h=>by omega) id)
      have hM2':∀j,(M j∨j=W.heap.size)→j<W4.heap.size:=fun j e=>by
       have h1:=hst04.size
       rcases e with e|e
       ·have:=hM2 j e;omega
       ·omega
      have hJ4:J (pre++xs) (fun j=>M j∨j=W.heap.size) W4:=HJS.out _ _ _ _ _ HJ1.out (hst04.mono (fun j e => .inl (by
       rcases e with e|e|e
       ·rw[e];exact hM1 _ hx.mg
       ·rw[e];exact hM1 _ hx.mt
       ·exact hM1 _ (hx.mn j e)))) (fun _ e => .inl e)
      have HC:Hid (Calls Tryz.prog 156 (#[.int .i64 ((k:Int)+1)]++c.caps) W4 (FillQ c J Jx (fun j=>M j∨j=W.heap.size) (pre++xs) (compP c.n c.ok d (k+1) (cs.set k (x:Int))) (k+1) (cs.set k (x:Int)) W4)):=by
       have h1:=HIH.out (k+1) W4 (cs.set k (x:Int)) (F1.set k (x:Int)) (fun j=>M j∨j=W.heap.size) (pre++xs) (by have:=HD.out;omega) hcs4 (fun j e => .inl (hM1 j e)) hM2' (by
        refine List.IsPrefix.trans ?_ HL0.out
        rw[List.map_append,HXS.out,List.append_assoc,← HC1.out,← accC_succ]
        exact (List.prefix_append_right_inj _).2 (accC_mono c.n c.ok d k cs (by omega))) hJ4
       rw[show (((k+1:Nat)):Int)=(k:Int)+1 from by omega] at h1
       exact h1
      unfold CC.caps at HC
      simp only[List.append_toArray,List.cons_append,List.nil_append] at HC
      rw[← HC1.out] at HC
      have HQ4:Hid (W4.heap[W.heap.size]?=some (.cells #[.int .u32 (R:Int),.int .u32 (K:Int)] 157 (0,0))):=hst04.q HQ1.out (fun e=>by
       rcases e with e|e|e
       ·omega
       ·omega
       ·exact hWN e)
      have HST4:=Lib.hid hst04
      have cFi:W4.cell? ⟨c.bFi,0,none⟩=some (.func (.func 156) #[] c.caps):=q_cell hcs4.cb.qFi 0
      unfold CC.caps at cFi
      have lFi:=q_lt hcs4.cb.qFi
      clear hst04 hcs4 hM2' hJ4 hnt4 hst4 hf3 htk3 hcb3 hnt3 HST3 cNo lNo HNT hHS
      go_upto_region 14 with fail
      refine HC.out.mono ?_
      rintro _ W5 ⟨hleft5,⟨F5,hcs5⟩,(⟨rfl,ys,hys,hJ5⟩|⟨rfl,ys,hys,hys2,hJ5⟩)⟩
      ·clear cFi lFi
       have HS5:=Lib.hid hcs5
       have HLF5:=Lib.hid hleft5
       have HYS:=Lib.hid hys
       have HJ5:=Lib.hid hJ5
       have HQ5:Hid (W5.heap[W.heap.size]?=some (.cells #[.int .u32 (R:Int),.int .u32 (K:Int)] 157 (0,0))):=(hleft5.2 W.heap.size (q_lt HQ4.out) (.inr rfl) (Ne.symm (Nat.ne_of_lt hWg)) (Ne.symm (Nat.ne_of_lt hWT)) hWN).trans HQ4.out
       have cNo:W5.cell? ⟨c.bNo,0,none⟩=some (.func (.func c.nk) #[] c.ncaps):=q_cell hcs5.cb.qNo 0
       have lNo:=q_lt hcs5.cb.qNo
       have HNF:=Lib.hid (hx.side.noteF cs k x W5 hcs5.nt hcs5.cb.kLt HS1.out.gc hkm hlt HPS.out HOKB.out.symm)
       clear hcs5 hleft5 hys hJ5
       go_upto_region 15 with fail
       refine HNF.out.mono ?_
       rintro _ W6 ⟨rfl,hnt6,hst6⟩
       have HNT6:=Lib.hid hnt6
       have HST6:=Lib.hid hst6
       have htk6:=HS5.out.tk.stays hst6 hx.tn
       have HQ6:=Lib.hid (hst6.q HQ5.out hWN)
       have z0:W6.cell? ⟨W.heap.size,0,none⟩=some (.int .u32 (R:Int)):=q_cell HQ6.out 0
       have z1:W6.cell? ⟨W.heap.size,1,none⟩=some (.int .u32 (K:Int)):=q_cell HQ6.out 1
       have zl:=q_lt HQ6.out
       have t0:=(htk6.row q hqb).1
       have t1:=(htk6.col r hrb).1
       have f0:=(htk6.row q hqb).2
       have f1:=(htk6.col r hrb).2
       have tl:=htk6.lt
       have HTK6:=Lib.hid htk6
       clear cNo lNo hnt6 hst6 htk6 HNF
       go_upto_region 15 with fail
       refine wp_region_T (fun w'=>∃u,w'=hold (.cells #[.int .u32 (R:Int),.int .u32 (K:Int)] 157 (0,0)) (W.heap.size) u) [0,1,2,4,6,9] [11] [(0,3),(0,5),(0,7),(1,8),(0,10),(2,11)] (by kernel_rfl) (by kernel_rfl) (by exact ⟨_,hold_of (by first|exact q_other HQ6.out (Ne.symm (Nat.ne_of_lt hWT)) _|exact HQ6.out)⟩) ?_
       dsimp only[pickF,nthOp]
       repeat (first|(refine wpF_skip rfl (fun K hK=>?_);go_big_quiet_op;refine hK _ ?_;clear hK K)|(refine wpF_quiet rfl rfl (fun K hK=>?_);go_big_quiet_op;refine hK _ ?_;clear hK K))
       refine wpF_end ?_
       dsimp only[pickOps,nthOp]
       repeat (first|(refine wpS_skip rfl (fun K hK=>?_);go_big_quiet_op;refine hK _ ?_;clear hK K)|(refine wpS_quiet rfl rfl (fun K hK=>?_);go_big_quiet_op;refine hK _ ?_;clear hK K)|(refine wpS_loud ?_;go_wp2_with (fail);refine ⟨?_,?_⟩;focus (exact ⟨_,hold_of (by first|exact q_other HQ6.out (Ne.symm (Nat.ne_of_lt hWT)) _|exact HQ6.out)⟩)))
       refine wpS_late _ _ _ rfl ?_
       dsimp only[List.map]
       go_wp2_with (fail)
       refine NoPanic.normal ?_
       have hst7:Stays (fun j=>j=c.bT) W6 ((W6.setCell ⟨c.bT,q,none⟩ (.int .u32 (R:Int))).setCell ⟨c.bT,16+r,none⟩ (.int .u32 (K:Int))).drew:=((Stays.setCell (S:=fun j=>j=c.bT) W6 (p:=⟨c.bT,q,none⟩) rfl _).trans (Stays.setCell (S:=fun j=>j=c.bT) _ (p:=⟨c.bT,16+r,none⟩) rfl _) (fun _ e => .inl e)).drew
       have htk7:TkW ((W6.setCell ⟨c.bT,q,none⟩ (.int .u32 (R:Int))).setCell ⟨c.bT,16+r,none⟩ (.int .u32 (K:Int))).drew c.bT (rowM c.n cs c.m) (colM c.n cs c.m):=by
        refine (HTK6.out.put (i:=q) (j:=r) (n1:=R) (n2:=K) hqb hrb).same (fun i _=>?_) (fun i _=>?_)
        ·have:=rowM_set (n:=c.n) (cs:=cs) (k:=k) (x:=x) (by rw[HS1.out.gc.len];exact hkm) (by rw[HCK.out];exact HPS.out) i
         rw[HS1.out.gc.len] at this
         by_cases e:i=q
         ·rw[if_pos e,HRE.out,e]
         ·rw[if_neg e,this,if_neg (by rw[← HQ.out];exact e)]
        ·have:=colM_set (n:=c.n) (cs:=cs) (k:=k) (x:=x) (by rw[HS1.out.gc.len];exact hkm) (by rw[HCK.out];exact HPS.out) i
         rw[HS1.out.gc.len] at this
         by_cases e:i=r
         ·rw[if_pos e,HKE.out,e]
         ·rw[if_neg e,this,if_neg (by rw[← HR2.out];exact e)]
       generalize ((W6.setCell ⟨c.bT,q,none⟩ (.int .u32 (R:Int))).setCell ⟨c.bT,16+r,none⟩ (.int .u32 (K:Int))).drew=W7 at hst7 htk7 ⊢
       have hcb6:CB c W6:=HS5.out.cb.stays HST6.out (fun j e=>(hap j e).2.2)
       have hst57:Stays (fun j=>j=c.g∨j=c.bT∨c.MN j) W5 W7:=(HST6.out.mono (fun j e => .inr (.inr e))).trans (hst7.mono (fun j e => .inr (.inl e))) (fun _ e => .inl e)
       have HCS7:Hid (CS c W7 cs F5 k):=⟨hcb6.stays hst7 (fun j e=>(hap j e).2.1),htk7,owns_keep HS5.out.f (fun j e hl=>(hst7.block j (Nat.lt_of_lt_of_le hl HST6.out.size) (fun e2=>hx.gt (by cases e;exact e2))).trans (HST6.out.block j hl (fun e2=>hx.gn (by cases e;exact e2)))),hx.side.keep _ _ _ HNT6.out hst7.size (fun j e=>hst7.block j (e.elim (hcb6.kLt j) (hcb6.mnLt j)) (fun e2=>e.elim (fun e=>(hap j e).2.1 e2) (fun e=>hx.tn (by rw[← e2];exact e)))),HS1.out.gc,fun j hj=>by
        rw[HS5.out.agree j (hj.imp (fun h=>by omega) id),gset_get (by rw[HS1.out.gc.len];exact hkm),if_neg (fun e=>by
         rcases hj with h|h
         ·omega
         ·rw[e] at h;have:=HPS.out;omega)]⟩
       have HQ7:=Lib.hid (hst57.q HQ5.out (fun e=>by
        rcases e with e|e|e
        ·omega
        ·omega
        ·exact hWN e))
       have HLF7:Hid (Left c M W W7):=((HL1.out.trans (Left.of_stays (M:=M) HST4.out (fun _ e=>e)) (fun _ e=>e)).trans HLF5.out (fun _ e => .inl e)).trans (Left.of_stays (M:=M) hst57 (fun _ e=>e)) (fun _ e=>e)
       have hmM:∀j,(j=c.g∨j=c.bT∨c.MN j)→(M j∨j=W.heap.size):=fun j e => .inl (by
        rcases e with e|e|e
        ·rw[e];exact hM1 _ hx.mg
        ·rw[e];exact hM1 _ hx.mt
        ·exact hM1 _ (hx.mn j e))
       clear z0 z1 zl t0 t1 f0 f1 tl hst7 htk7 hcb6
       have HJ7:=Lib.hid (HJS.out _ _ _ _ _ HJ5.out (hst57.mono hmM) (fun _ e => .inl e))
       clear hst57
       go_wp2_with fail
       go_roundw
       case rel=>exact ⟨x+1,by omega,by go_num,F5,xs++ys,HCS7.out,HLF7.out,HQ7.out,by rw[List.map_append,HXS.out,HYS.out,accC_succ],by rw[← List.append_assoc];exact HJ7.out⟩
       case measure=>simp[intOf];omega
      ·clear cFi lFi
       have HY2:=Lib.hid hys2
       clear hys2
       have HS5:=Lib.hid hcs5
       have HLF5:=Lib.hid hleft5
       have HYS:=Lib.hid hys
       have HJ5:=Lib.hid hJ5
       have HQ5:Hid (W5.heap[W.heap.size]?=some (.cells #[.int .u32 (R:Int),.int .u32 (K:Int)] 157 (0,0))):=(hleft5.2 W.heap.size (q_lt HQ4.out) (.inr rfl) (Ne.symm (Nat.ne_of_lt hWg)) (Ne.symm (Nat.ne_of_lt hWT)) hWN).trans HQ4.out
       have cNo:W5.cell? ⟨c.bNo,0,none⟩=some (.func (.func c.nk) #[] c.ncaps):=q_cell hcs5.cb.qNo 0
       have lNo:=q_lt hcs5.cb.qNo
       have HNF:=Lib.hid (hx.side.noteF cs k x W5 hcs5.nt hcs5.cb.kLt HS1.out.gc hkm hlt HPS.out HOKB.out.symm)
       clear hcs5 hleft5 hys hJ5
       go_upto_region 15 with fail
       refine HNF.out.mono ?_
       rintro _ W6 ⟨rfl,hnt6,hst6⟩
       have HNT6:=Lib.hid hnt6
       have HST6:=Lib.hid hst6
       have htk6:=HS5.out.tk.stays hst6 hx.tn
       have HQ6:=Lib.hid (hst6.q HQ5.out hWN)
       have z0:W6.cell? ⟨W.heap.size,0,none⟩=some (.int .u32 (R:Int)):=q_cell HQ6.out 0
       have z1:W6.cell? ⟨W.heap.size,1,none⟩=some (.int .u32 (K:Int)):=q_cell HQ6.out 1
       have zl:=q_lt HQ6.out
       have t0:=(htk6.row q hqb).1
       have t1:=(htk6.col r hrb).1
       have f0:=(htk6.row q hqb).2
       have f1:=(htk6.col r hrb).2
       have tl:=htk6.lt
       have HTK6:=Lib.hid htk6
       clear cNo lNo hnt6 hst6 htk6 HNF
       go_upto_region 15 with fail
       refine wp_region_T (fun w'=>∃u,w'=hold (.cells #[.int .u32 (R:Int),.int .u32 (K:Int)] 157 (0,0)) (W.heap.size) u) [0,1,2,4,6,9] [11] [(0,3),(0,5),(0,7),(1,8),(0,10),(2,11)] (by kernel_rfl) (by kernel_rfl) (by exact ⟨_,hold_of (by first|exact q_other HQ6.out (Ne.symm (Nat.ne_of_lt hWT)) _|exact HQ6.out)⟩) ?_
       dsimp only[pickF,nthOp]
       repeat (first|(refine wpF_skip rfl (fun K hK=>?_);go_big_quiet_op;refine hK _ ?_;clear hK K)|(refine wpF_quiet rfl rfl (fun K hK=>?_);go_big_quiet_op;refine hK _ ?_;clear hK K))
       refine wpF_end ?_
       dsimp only[pickOps,nthOp]
       repeat (first|(refine wpS_skip rfl (fun K hK=>?_);go_big_quiet_op;refine hK _ ?_;clear hK K)|(refine wpS_quiet rfl rfl (fun K hK=>?_);go_big_quiet_op;refine hK _ ?_;clear hK K)|(refine wpS_loud ?_;go_wp2_with (fail);refine ⟨?_,?_⟩;focus (exact ⟨_,hold_of (by first|exact q_other HQ6.out (Ne.symm (Nat.ne_of_lt hWT)) _|exact HQ6.out)⟩)))
       refine wpS_late _ _ _ rfl ?_
       dsimp only[List.map]
       go_wp2_with (fail)
       refine NoPanic.normal ?_
       have hst7:Stays (fun j=>j=c.bT) W6 ((W6.setCell ⟨c.bT,q,none⟩ (.int .u32 (R:Int))).setCell ⟨c.bT,16+r,none⟩ (.int .u32 (K:Int))).drew:=((Stays.setCell (S:=fun j=>j=c.bT) W6 (p:=⟨c.bT,q,none⟩) rfl _).trans (Stays.setCell (S:=fun j=>j=c.bT) _ (p:=⟨c.bT,16+r,none⟩) rfl _) (fun _ e => .inl e)).drew
       have htk7:TkW ((W6.setCell ⟨c.bT,q,none⟩ (.int .u32 (R:Int))).setCell ⟨c.bT,16+r,none⟩ (.int .u32 (K:Int))).drew c.bT (rowM c.n cs c.m) (colM c.n cs c.m):=by
        refine (HTK6.out.put (i:=q) (j:=r) (n1:=R) (n2:=K) hqb hrb).same (fun i _=>?_) (fun i _=>?_)
        ·have:=rowM_set (n:=c.n) (cs:=cs) (k:=k) (x:=x) (by rw[HS1.out.gc.len];exact hkm) (by rw[HCK.out];exact HPS.out) i
         rw[HS1.out.gc.len] at this
         by_cases e:i=q
         ·rw[if_pos e,HRE.out,e]
         ·rw[if_neg e,this,if_neg (by rw[← HQ.out];exact e)]
        ·have:=colM_set (n:=c.n) (cs:=cs) (k:=k) (x:=x) (by rw[HS1.out.gc.len];exact hkm) (by rw[HCK.out];exact HPS.out) i
         rw[HS1.out.gc.len] at this
         by_cases e:i=r
         ·rw[if_pos e,HKE.out,e]
         ·rw[if_neg e,this,if_neg (by rw[← HR2.out];exact e)]
       generalize ((W6.setCell ⟨c.bT,q,none⟩ (.int .u32 (R:Int))).setCell ⟨c.bT,16+r,none⟩ (.int .u32 (K:Int))).drew=W7 at hst7 htk7 ⊢
       have hcb6:CB c W6:=HS5.out.cb.stays HST6.out (fun j e=>(hap j e).2.2)
       have hst57:Stays (fun j=>j=c.g∨j=c.bT∨c.MN j) W5 W7:=(HST6.out.mono (fun j e => .inr (.inr e))).trans (hst7.mono (fun j e => .inr (.inl e))) (fun _ e => .inl e)
       have HCS7:Hid (CS c W7 cs F5 k):=⟨hcb6.stays hst7 (fun j e=>(hap j e).2.1),htk7,owns_keep HS5.out.f (fun j e hl=>(hst7.block j (Nat.lt_of_lt_of_le hl HST6.out.size) (fun e2=>hx.gt (by cases e;exact e2))).trans (HST6.out.block j hl (fun e2=>hx.gn (by cases e;exact e2)))),hx.side.keep _ _ _ HNT6.out hst7.size (fun j e=>hst7.block j (e.elim (hcb6.kLt j) (hcb6.mnLt j)) (fun e2=>e.elim (fun e=>(hap j e).2.1 e2) (fun e=>hx.tn (by rw[← e2];exact e)))),HS1.out.gc,fun j hj=>by
        rw[HS5.out.agree j (hj.imp (fun h=>by omega) id),gset_get (by rw[HS1.out.gc.len];exact hkm),if_neg (fun e=>by
         rcases hj with h|h
         ·omega
         ·rw[e] at h;have:=HPS.out;omega)]⟩
       have HQ7:=Lib.hid (hst57.q HQ5.out (fun e=>by
        rcases e with e|e|e
        ·omega
        ·omega
        ·exact hWN e))
       have HLF7:Hid (Left c M W W7):=((HL1.out.trans (Left.of_stays (M:=M) HST4.out (fun _ e=>e)) (fun _ e=>e)).trans HLF5.out (fun _ e => .inl e)).trans (Left.of_stays (M:=M) hst57 (fun _ e=>e)) (fun _ e=>e)
       have hmM:∀j,(j=c.g∨j=c.bT∨c.MN j)→(M j∨j=W.heap.size):=fun j e => .inl (by
        rcases e with e|e|e
        ·rw[e];exact hM1 _ hx.mg
        ·rw[e];exact hM1 _ hx.mt
        ·exact hM1 _ (hx.mn j e))
       clear z0 z1 zl t0 t1 f0 f1 tl hst7 htk7 hcb6
       have HJ7:=Lib.hid (HJXS.out _ _ M _ _ HJ5.out (hst57.mono hmM) (fun _ e => .inl (.inl e)))
       clear hst57
       go_wp2_with fail
       go_ret
       refine ⟨HLF7.out,⟨F5,HCS7.out⟩,.inr ⟨rfl,xs++ys,?_,fun e=>HY2.out (List.append_eq_nil_iff.1 e).2,by rw[← List.append_assoc];exact HJ7.out⟩⟩
       have h6:=accC_mono c.n c.ok d k cs (show x+1≤c.n by omega)
       rw[accC_succ] at h6
       rw[List.map_append,HXS.out]
       exact List.IsPrefix.trans ((List.prefix_append_right_inj _).2 HYS.out) h6
   ·have e:x=c.n:=by omega
    subst e
    obtain ⟨F1,xs,hs1,hl1,hq1,hxs,hJ1⟩:=hI.out
    have HS1:=Lib.hid hs1
    have HL1:=Lib.hid hl1
    have HXS:=Lib.hid hxs
    have HJ1:=Lib.hid hJ1
    clear hs1 hl1 hq1 hxs hJ1
    go_wp2_with fail
    go_ret
    exact ⟨HL1.out,⟨F1,HS1.out⟩,.inl ⟨rfl,xs,HXS.out,HJS.out _ _ _ _ _ HJ1.out (Stays.refl _ _) (fun j e => .inl (.inl e))⟩⟩
end
end Go.Proofs.YtmfpdakaeagdpaaGreat
