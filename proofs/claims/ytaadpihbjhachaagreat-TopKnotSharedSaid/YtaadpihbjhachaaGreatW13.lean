/- Texts X1 to I0 of this proof, in one file. -/
import Derived.Test.YtaadpihbjhachaaGreatW01
import Derived.Test.YtaadpihbjhachaaGreatW09
import Derived.Test.YtaadpihbjhachaaGreatW12
import Derived.OwnWalkIn
import Derived.OrdersIn
import Derived.RangeFuncCalls
namespace Go.Proofs.YtaadpihbjhachaaGreat
set_option maxRecDepth 100000
set_option maxHeartbeats 16000000
section
open Go Go.RowKit
attribute [local go_sem] over_cell
attribute [local go_sem] Oper.semAt_some
def fTo (out f:List Int) (j:Nat):List Int:=(List.range out.length).map fun k=>if k<j∧out[k]?.getD 0≠f[k]?.getD 0 then 0 else out[k]?.getD 0
theorem fTo_len (out f:List Int) (j:Nat):(fTo out f j).length=out.length:=by simp[fTo]
theorem fTo_get {out f:List Int} {j k:Nat} (hk:k<out.length):(fTo out f j)[k]?.getD 0=if k<j∧out[k]?.getD 0≠f[k]?.getD 0 then 0 else out[k]?.getD 0:=by
 unfold fTo
 rw[List.getElem?_map,List.getElem?_range hk]
 rfl
theorem ext_getD {a b:List Int} (hl:a.length=b.length) (h:∀k,k<a.length→a[k]?.getD 0=b[k]?.getD 0):a=b:=by
 apply List.ext_getElem hl
 intro k h1 h2
 have:=h k h1
 rw[List.getElem?_eq_getElem h1,List.getElem?_eq_getElem h2] at this
 simpa using this
theorem fTo_zero (out f:List Int):fTo out f 0=out :=
 ext_getD (fTo_len _ _ _) (fun k hk=>by rw[fTo_len] at hk;rw[fTo_get hk,if_neg (by omega)])
theorem fTo_self (out:List Int) (j:Nat):fTo out out j=out :=
 ext_getD (fTo_len _ _ _) (fun k hk=>by rw[fTo_len] at hk;rw[fTo_get hk,if_neg (fun h=>h.2 rfl)])
theorem fTo_keep {out f:List Int} {j:Nat} (h:out[j]?.getD 0=f[j]?.getD 0):fTo out f (j+1)=fTo out f j :=
 ext_getD (by rw[fTo_len,fTo_len]) (fun k hk=>by
  rw[fTo_len] at hk
  rw[fTo_get hk,fTo_get hk]
  by_cases e:k=j
  ·subst e
   rw[if_neg (fun h2=>h2.2 h),if_neg (by omega)]
  ·by_cases h2:k<j∧out[k]?.getD 0≠f[k]?.getD 0
   ·rw[if_pos h2,if_pos ⟨by omega,h2.2⟩]
   ·rw[if_neg h2,if_neg (fun h3=>h2 ⟨by omega,h3.2⟩)])
theorem fTo_drop {out f:List Int} {j:Nat} (hj:j<out.length) (h:out[j]?.getD 0≠f[j]?.getD 0):fTo out f (j+1)=(fTo out f j).set j 0 :=
 ext_getD (by rw[fTo_len,List.length_set,fTo_len]) (fun k hk=>by
  rw[fTo_len] at hk
  rw[fTo_get hk]
  by_cases e:k=j
  ·subst e
   rw[if_pos ⟨by omega,h⟩,List.getElem?_set_self (by rw[fTo_len];exact hk)];rfl
  ·rw[List.getElem?_set_ne (Ne.symm e),fTo_get hk]
   by_cases h2:k<j∧out[k]?.getD 0≠f[k]?.getD 0
   ·rw[if_pos h2,if_pos ⟨by omega,h2.2⟩]
   ·rw[if_neg h2,if_neg (fun h3=>h2 ⟨by omega,h3.2⟩)])
def fStep (out f:List Int):List Int:=fTo out f out.length
def forTo (L:List (List Int)) (i:Nat):List Int:=(L.take i).foldl fStep (L[0]?.getD [])
def forL (L:List (List Int)):List Int:=forTo L L.length
theorem forTo_succ {L:List (List Int)} {i:Nat} (h:i<L.length):forTo L (i+1)=fStep (forTo L i) (L[i]?.getD []):=by
 unfold forTo
 rw[take_snoc L [] i h,List.foldl_append]
 rfl
theorem fold_len:∀(l:List (List Int)) (o:List Int),(l.foldl fStep o).length=o.length
 | [],_=>rfl
 | x :: l,o=>by rw[List.foldl_cons,fold_len l];exact fTo_len _ _ _
theorem forTo_len (L:List (List Int)) (i:Nat):(forTo L i).length=(L[0]?.getD []).length:=fold_len _ _
end
section
open Go Go.RowKit Go.Shelf
attribute [local go_sem] over_cell
attribute [local go_sem] Oper.semAt_some
def GivenT (m:Nat) (Im:Nat→Prop) (bx base:Nat) (x:Value × List Int) (M:Nat→Prop) (W:World):Prop:=GivenS Im bx base x M W∧x.2.length=m
theorem GivenT.putObj {m:Nat} {Im:Nat→Prop} {bx base:Nat} {x:Value × List Int} {M:Nat→Prop} {W:World} {l:Nat} {o o':Obj} (h:GivenT m Im bx base x M W) (hl:W.heap[l]?=some o) (ho:o.isCells=false):GivenT m Im bx base x M (W.putObj l o'):=⟨h.1.putObj hl ho,h.2⟩
theorem sol1t_c (b bx base:Nat) (Im:Nat→Prop) (C:Cst) (vf vp:Value) (P:List Int) (W:World) (h:SR W b Im C vf vp P) (he:Even C) (hx:W.cell? ⟨bx,0,none⟩=some (.pointer (some ⟨b,0,none⟩))) (hbx:bx<W.heap.size) (hnb:¬Mut b vf vp bx) (hbase:base≤W.heap.size)
  (l:Nat) (J Jx:List (Value × List Int)→(Nat→Prop)→World→Prop) (hJ:StableM J)
  (hY:∀pre x M W0 W1,J pre M W0→Below W0.heap.size W0 W1→NewS x W0→GivenT C.g.length Im bx base x M W1→YieldAt Fence.wide 0 Tryz.prog l (encS x) W1 fun e W' =>
   (e = .returned (.bool true)∧J (pre++[x]) M W'∧KpS Im bx M W1 W')∨(e = .returned (.bool false)∧Jx (pre++[x]) M W'∧KpS Im bx M W1 W'))
  (h0:J [] (Mut b vf vp) W) :
  Calls Tryz.prog 193 #[.func (.yield l) #[] #[],.pointer (some ⟨bx,0,none⟩)] W fun e W'=>(∃v,e = .returned v) ∧
   ((∃xs M,xs.map Prod.snd=sols C P∧J xs M W')∨(∃pre M,(pre.map Prod.snd <+: sols C P∧pre≠[])∧Jx pre M W')):=by
 have c4:=h.c4
 have hlt:=h.lt
 have H:=Lib.hid h
 have HJ:=Lib.hid hJ
 have HY:=Lib.hid hY
 have H0:=Lib.hid h0
 have HE:=Lib.hid he
 clear h hJ hY h0 he
 by_cases hO:C.O.length=0
 ·have hOb:(((C.O.length:Nat):Int)==0)=true:=by rw[beq_iff_eq];omega
  have HW:=Lib.hid ((wrong_c b Im C vf vp P W H.out).mono (fun e w' hh=>And.intro hh.1 (Bun.below (b:=b) (bx:=bx) (base:=base) (Im:=Im) (C:=C) (vf:=vf) (J:=J) (P:=P) (pre:=[]) (vp:=vp) HJ.out ⟨hx,hbx,hlt,hbase,hnb,H,H0⟩ hh.2)))
  obtain ⟨af,nf,cf,rfl⟩:∃af nf cf,vf = .slice af nf cf:=by
   obtain ⟨a,c,e⟩:=owns_shape H.out.f
   exact ⟨_,_,_,e⟩
  by_cases hw:wrongB C P=true
  ·have HS:Hid (sols C P=[]):=by unfold Hid sols;rw[if_pos hO,if_pos hw]
   rw[hw] at HW
   clear hO hw
   refine (callsIn_wide (n:=0)).1 (callsIn_of_wp Tryz.func193 rfl trivial ?_ rfl)
   simp only[Tryz.ntmps193,List.size_toArray,List.length_cons,List.length_nil,Nat.reduceAdd,Nat.reduceSub,Array.replicate_succ,Array.replicate_zero,List.push_toArray,List.append_toArray,List.nil_append,List.cons_append]
   gi_wp2_with (first|(with_reducible refine ⟨wide_fn _,?_⟩)|(with_reducible refine ⟨wide_depth,?_⟩)|(with_reducible refine ⟨wide_all,?_⟩)|(gi_at_call 133;refine (callsIn_wide.2 HW.out).mono ?_;rintro _ w3 ⟨rfl,hx3,hbx3,hlt3,hbs3,hm3,HS3,HJ3⟩;have c10:=HS3.out.c10))
   refine bodyPost_ret (results_none rfl _ _ _) rfl ?_
   exact ⟨⟨_,rfl⟩,.inl ⟨[],_,by rw[HS.out];rfl,HJ3.out⟩⟩
  ·have HS:Hid (sols C P=[fillP C P]):=by unfold Hid sols;rw[if_pos hO,if_neg hw]
   have hw':wrongB C P=false:=by simpa using hw
   have HC:=Lib.hid (fun w3 vp2 (hb:Bun b bx base Im C (.slice af nf cf) J P [] vp2 w3)=>(clone_c af nf cf (fillP C P) w3 hb.2.2.2.2.2.1.out.ic.1).mono (fun e w' h=>show ∃v,e = .returned v∧YieldAt Fence.wide 0 Tryz.prog l #[v] w' (fun e W'=>(e = .returned (.bool true)∧Hid (∃xs M,xs.map Prod.snd=[fillP C P]∧J xs M W'))∨(e = .returned (.bool false)∧Hid (∃pre' M,(pre'.map Prod.snd <+: [fillP C P]∧pre'≠[])∧Jx pre' M W'))) from by
    obtain ⟨v,he,hown,hbl⟩:=h
    refine ⟨v,he,?_⟩
    obtain ⟨h1,h2,h3,h4,h5,h6,h7⟩:=hb
    refine YieldAt.mono (HY.out [] (v,fillP C P) _ w3 w' h7.out hbl (fun k e=>(hown.lt k e).1) ⟨⟨owns_up (owns_base hown (Nat.zero_le _)) (fun k e=>by have:=(hown.lt k e).1;omega),fun k e hk=>?_,fun k hk=>Nat.lt_of_lt_of_le (h6.out.mutLt hk) hbl.size⟩,fillP_len _ _⟩) ?_
    ·have hge:=(hown.lt k e).1
     rcases hk with hk|hk|hk
     ·have:=h6.out.imLt k hk;omega
     ·have:=h6.out.mutLt hk;omega
     ·omega
    ·rintro e5 W5 (⟨he5,hJ5,hk5⟩|⟨he5,hJ5,_⟩)
     ·exact .inl ⟨he5,Lib.hid ⟨_,_,rfl,hJ5⟩⟩
     ·exact .inr ⟨he5,Lib.hid ⟨_,_,⟨List.prefix_refl _,by simp⟩,hJ5⟩⟩))
   rw[hw'] at HW
   clear hO hw hw'
   refine (callsIn_wide (n:=0)).1 (callsIn_of_wp Tryz.func193 rfl trivial ?_ rfl)
   simp only[Tryz.ntmps193,List.size_toArray,List.length_cons,List.length_nil,Nat.reduceAdd,Nat.reduceSub,Array.replicate_succ,Array.replicate_zero,List.push_toArray,List.append_toArray,List.nil_append,List.cons_append]
   gi_wp2_with (first|(with_reducible refine ⟨wide_fn _,?_⟩)|(with_reducible refine ⟨wide_depth,?_⟩)|(with_reducible refine ⟨wide_all,?_⟩)|(gi_at_call 133;refine (callsIn_wide.2 HW.out).mono ?_;rintro _ w3 ⟨rfl,hx3,hbx3,hlt3,hbs3,hm3,HS3,HJ3⟩;have c10:=HS3.out.c10)|(gi_at_call 71;refine (callsIn_wide.2 (HC.out _ _ ⟨hx3,hbx3,hlt3,hbs3,hm3,HS3,HJ3⟩)).mono ?_;rintro _ w4 ⟨v4,rfl,fn,tmps,assign,body,hy,hR⟩))
   refine hR.mono ?_
   rintro e5 w5 (⟨rfl,hr5⟩|⟨rfl,hr5⟩)
   ·gi_wp2_with (first|(with_reducible refine ⟨wide_fn _,?_⟩)|(with_reducible refine ⟨wide_depth,?_⟩)|(with_reducible refine ⟨wide_all,?_⟩))
    refine bodyPost_ret (results_none rfl _ _ _) rfl ?_
    obtain ⟨xs,M,h1,h2⟩:=hr5.out
    exact ⟨⟨_,rfl⟩,.inl ⟨xs,M,by rw[HS.out];exact h1,h2⟩⟩
   ·gi_wp2_with (first|(with_reducible refine ⟨wide_fn _,?_⟩)|(with_reducible refine ⟨wide_depth,?_⟩)|(with_reducible refine ⟨wide_all,?_⟩))
    refine bodyPost_ret (results_none rfl _ _ _) rfl ?_
    obtain ⟨pre',M,h1,h2⟩:=hr5.out
    exact ⟨⟨_,rfl⟩,.inr ⟨pre',M,by rw[HS.out];exact h1,h2⟩⟩
 ·have hOb:(((C.O.length:Nat):Int)==0)=false:=by rw[beq_eq_false_iff_ne];omega
  have HS:Hid (sols C P=found C P):=if_neg hO
  have HO:=Lib.hid hO
  clear hO
  refine (callsIn_wide (n:=0)).1 (callsIn_of_wp Tryz.func193 rfl trivial ?_ rfl)
  simp only[Tryz.ntmps193,List.size_toArray,List.length_cons,List.length_nil,Nat.reduceAdd,Nat.reduceSub,Array.replicate_succ,Array.replicate_zero,List.push_toArray,List.append_toArray,List.nil_append,List.cons_append]
  gi_wp2
  gi_loopw [] (fun wr=>∃k,SolRel b bx base Im C vf J (found C P) wr k) (fun wr=>leastOf (SolRel b bx base Im C vf J (found C P) wr))
  case atStart=>exact ⟨_,[],P,vp,rfl,H.out,hx,hbx,hnb,hbase,H0.out,by simp⟩
  case round =>
   have hsp:=(leastOf_spec hrel).1
   have HK:=Lib.hid (rfl:leastOf (SolRel b bx base Im C vf J (found C P) wr)=leastOf (SolRel b bx base Im C vf J (found C P) wr))
   obtain ⟨pre,P1,vp1,hk1,hsr,hx1,hbx1,hnb1,hbase1,hJ1,hfound⟩:=hsp
   clear hrel
   have hlt1:=hsr.lt
   have HFD:=Lib.hid hfound
   have HJ1:=Lib.hid hJ1
   have HK1:=Lib.hid hk1
   clear hfound hJ1 hk1
   have HST:=Lib.hid (found_step HE.out hsr.fine hsr.ok)
   cases hn:nextP C P1 with
   | none =>
    have HN:Hid (Calls Tryz.prog 131 #[.pointer (some ⟨b,0,none⟩)] wr fun e w'=>e = .returned (.bool false)∧Stepped wr w' b Im C vf vp1 []):=by
     have:=next_c b Im C vf vp1 P1 wr hsr HE.out
     rw[hn] at this
     exact this
    have HST2:Hid (found C P1=[]):=by have:=HST.out;rw[hn] at this;exact this
    clear hn HST hsr
    gi_wp2_with (first|(with_reducible refine ⟨wide_fn _,?_⟩)|(with_reducible refine ⟨wide_depth,?_⟩)|(with_reducible refine ⟨wide_all,?_⟩)|(gi_at_call 131;refine (callsIn_wide.2 HN.out).mono ?_;rintro _ w1 ⟨rfl,vp2,hsr2,hst2,hk2⟩))
    go_end0
    refine ⟨⟨_,rfl⟩,.inl ⟨pre,_,?_,HJ.out _ _ _ _ _ HJ1.out hst2 (Mut.new hk2)⟩⟩
    have:=HFD.out
    rw[HST2.out,List.append_nil] at this
    rw[this,HS.out]
   | some P2 =>
    have HN:Hid (Calls Tryz.prog 131 #[.pointer (some ⟨b,0,none⟩)] wr fun e w'=>e = .returned (.bool true)∧∃vp2,Bun b bx base Im C vf J P2 pre vp2 w'):=by
     have:=next_c b Im C vf vp1 P1 wr hsr HE.out
     rw[hn] at this
     refine this.mono ?_
     rintro e w1 ⟨he,vp2,hsr2,hst2,hk2⟩
     have hs:=hst2.size
     exact ⟨he,vp2,(hst2.cell hbx1 hnb1).trans hx1,by omega,hsr2.lt,by omega,fun e=>(Mut.new hk2 bx e).elim hnb1 (fun h=>by omega),Lib.hid hsr2,Lib.hid (HJ.out _ _ _ _ _ HJ1.out hst2 (Mut.new hk2))⟩
    have HST2:Hid (found C P1=(if (P2.length==C.O.length)=true∧wrongB C P2=false then [fillP C P2] else [])++found C P2):=by have:=HST.out;rw[hn] at this;exact this
    have HLT:=Lib.hid (fuelP_lt HE.out hsr.fine hsr.ok hn)
    have HF:=Lib.hid (fun w1 vp2 (hb:Bun b bx base Im C vf J P2 pre vp2 w1)=>(full_c b Im C vf vp2 P2 w1 hb.2.2.2.2.2.1.out).mono (fun e w' h=>And.intro h.1 (hb.below HJ.out h.2)))
    obtain ⟨af,nf,cf,rfl⟩:∃af nf cf,vf = .slice af nf cf:=by
     obtain ⟨a,c,e⟩:=owns_shape hsr.f
     exact ⟨_,_,_,e⟩
    have HC:=Lib.hid (fun w3 vp2 (hb:Bun b bx base Im C (.slice af nf cf) J P2 pre vp2 w3) (hL:∀v,(pre++[(v,fillP C P2)]).map Prod.snd++found C P2=found C P)=>(clone_c af nf cf (fillP C P2) w3 hb.2.2.2.2.2.1.out.ic.1).mono (fun e w' h=>show ∃v,e = .returned v∧YieldAt Fence.wide 0 Tryz.prog l #[v] w' (fun e W'=>(e = .returned (.bool true)∧Hid (SolRel b bx base Im C (.slice af nf cf) J (found C P) W' (fuelP C P2)))∨(e = .returned (.bool false)∧Hid (∃pre' M,(pre'.map Prod.snd <+: found C P∧pre'≠[])∧Jx pre' M W'))) from by
     obtain ⟨v,he,hown,hbl⟩:=h
     refine ⟨v,he,?_⟩
     have hb4:=hb.below HJ.out hbl
     obtain ⟨h1,h2,h3,h4,h5,h6,h7⟩:=hb
     refine YieldAt.mono (HY.out pre (v,fillP C P2) _ w3 w' h7.out hbl (fun k e=>(hown.lt k e).1) ⟨⟨owns_up (owns_base hown (Nat.zero_le _)) (fun k e=>by have:=(hown.lt k e).1;omega),fun k e hk=>?_,fun k hk=>Nat.lt_of_lt_of_le (h6.out.mutLt hk) hbl.size⟩,fillP_len _ _⟩) ?_
     ·have hge:=(hown.lt k e).1
      rcases hk with hk|hk|hk
      ·have:=h6.out.imLt k hk;omega
      ·have:=h6.out.mutLt hk;omega
      ·omega
     ·rintro e5 W5 (⟨he5,hJ5,hk5⟩|⟨he5,hJ5,_⟩)
      ·refine .inl ⟨he5,Lib.hid ?_⟩
       obtain ⟨g1,g2,g3,g4,g5,g6,g7⟩:=hb4
       exact ⟨_,P2,vp2,rfl,g6.out.keep hk5.1 (fun k hlt hk=>hk5.2 k hlt (hk.imp id .inl)),(World.cell?_of_block (hk5.2 bx g2 (.inr (.inr rfl)))).trans g1,Nat.lt_of_lt_of_le g2 hk5.1,g5,Nat.le_trans g4 hk5.1,hJ5,hL v⟩
      ·refine .inr ⟨he5,Lib.hid ⟨_,_,⟨⟨found C P2,hL v⟩,by simp⟩,hJ5⟩⟩))
    have HW:=Lib.hid (fun w1 vp2 (hb:Bun b bx base Im C (.slice af nf cf) J P2 pre vp2 w1)=>(wrong_c b Im C (.slice af nf cf) vp2 P2 w1 hb.2.2.2.2.2.1.out).mono (fun e w' h=>And.intro h.1 (hb.below HJ.out h.2)))
    clear hn HST hsr HJ1
    by_cases hf:(P2.length==C.O.length)=true
    ·by_cases hw:wrongB C P2=true
     ·have HL2:Hid (pre.map Prod.snd++found C P2=found C P):=by
       have h1:=HST2.out
       rw[if_neg (fun e=>by rw[hw] at e;exact absurd e.2 (by decide)),List.nil_append] at h1
       exact h1▸HFD.out
      rw[hf] at HF
      rw[hw] at HW
      clear hf hw HC
      gi_wp2_with (first|(with_reducible refine ⟨wide_fn _,?_⟩)|(with_reducible refine ⟨wide_depth,?_⟩)|(with_reducible refine ⟨wide_all,?_⟩)|(gi_at_call 131;refine (callsIn_wide.2 HN.out).mono ?_;rintro _ w1 ⟨rfl,vp2,hx1,hbx1,hlt1,hbs1,hm1,HS1,HJ1⟩)|(gi_at_call 132;refine (callsIn_wide.2 (HF.out _ _ ⟨hx1,hbx1,hlt1,hbs1,hm1,HS1,HJ1⟩)).mono ?_;rintro _ w2 ⟨rfl,hx2,hbx2,hlt2,hbs2,hm2,HS2,HJ2⟩)|(gi_at_call 133;refine (callsIn_wide.2 (HW.out _ _ ⟨hx2,hbx2,hlt2,hbs2,hm2,HS2,HJ2⟩)).mono ?_;rintro _ w3 ⟨rfl,hx3,hbx3,hlt3,hbs3,hm3,HS3,HJ3⟩;have c10:=HS3.out.c10))
      go_roundw
      case rel=>exact ⟨_,Bun.rel ⟨hx3,hbx3,hlt3,hbs3,hm3,HS3,HJ3⟩ HL2.out⟩
      case measure=>exact (Bun.rel ⟨hx3,hbx3,hlt3,hbs3,hm3,HS3,HJ3⟩ HL2.out).meas HLT.out HK1.out
     ·have hw':wrongB C P2=false:=by simpa using hw
      have HL2:Hid (∀v,(pre++[(v,fillP C P2)]).map Prod.snd++found C P2=found C P):=fun v=>by
       have h1:=HST2.out
       rw[if_pos ⟨hf,hw'⟩] at h1
       have h2:=h1▸HFD.out
       simpa using h2
      have HC2:=Lib.hid (fun w3 vp2 (hb:Bun b bx base Im C (.slice af nf cf) J P2 pre vp2 w3)=>HC.out w3 vp2 hb HL2.out)
      rw[hf] at HF
      rw[hw'] at HW
      clear hf hw hw' HC
      gi_wp2_with (first|(with_reducible refine ⟨wide_fn _,?_⟩)|(with_reducible refine ⟨wide_depth,?_⟩)|(with_reducible refine ⟨wide_all,?_⟩)|(gi_at_call 131;refine (callsIn_wide.2 HN.out).mono ?_;rintro _ w1 ⟨rfl,vp2,hx1,hbx1,hlt1,hbs1,hm1,HS1,HJ1⟩)|(gi_at_call 132;refine (callsIn_wide.2 (HF.out _ _ ⟨hx1,hbx1,hlt1,hbs1,hm1,HS1,HJ1⟩)).mono ?_;rintro _ w2 ⟨rfl,hx2,hbx2,hlt2,hbs2,hm2,HS2,HJ2⟩)|(gi_at_call 133;refine (callsIn_wide.2 (HW.out _ _ ⟨hx2,hbx2,hlt2,hbs2,hm2,HS2,HJ2⟩)).mono ?_;rintro _ w3 ⟨rfl,hx3,hbx3,hlt3,hbs3,hm3,HS3,HJ3⟩;have c10:=HS3.out.c10)|(gi_at_call 71;refine (callsIn_wide.2 (HC2.out _ _ ⟨hx3,hbx3,hlt3,hbs3,hm3,HS3,HJ3⟩)).mono ?_;rintro _ w4 ⟨v4,rfl,fn,tmps,assign,body,hy,hR⟩))
      refine hR.mono ?_
      rintro e5 w5 (⟨rfl,hr5⟩|⟨rfl,hr5⟩)
      ·gi_wp2_with (first|(with_reducible refine ⟨wide_fn _,?_⟩)|(with_reducible refine ⟨wide_depth,?_⟩)|(with_reducible refine ⟨wide_all,?_⟩))
       go_roundw
       case rel=>exact ⟨_,hr5.out⟩
       case measure=>exact hr5.out.meas HLT.out HK1.out
      ·gi_wp2_with (first|(with_reducible refine ⟨wide_fn _,?_⟩)|(with_reducible refine ⟨wide_depth,?_⟩)|(with_reducible refine ⟨wide_all,?_⟩))
       refine bodyPost_ret (results_none rfl _ _ _) rfl ?_
       obtain ⟨pre',M,h1,h2⟩:=hr5.out
       exact ⟨⟨_,rfl⟩,.inr ⟨pre',M,by rw[HS.out];exact h1,h2⟩⟩
    ·have hf':(P2.length==C.O.length)=false:=by simpa using hf
     have HL2:Hid (pre.map Prod.snd++found C P2=found C P):=by
      have h1:=HST2.out
      rw[if_neg (fun e=>by rw[hf'] at e;exact absurd e.1 (by decide)),List.nil_append] at h1
      exact h1▸HFD.out
     rw[hf'] at HF
     clear hf hf' HC HW
     gi_wp2_with (first|(with_reducible refine ⟨wide_fn _,?_⟩)|(with_reducible refine ⟨wide_depth,?_⟩)|(with_reducible refine ⟨wide_all,?_⟩)|(gi_at_call 131;refine (callsIn_wide.2 HN.out).mono ?_;rintro _ w1 ⟨rfl,vp2,hx1,hbx1,hlt1,hbs1,hm1,HS1,HJ1⟩)|(gi_at_call 132;refine (callsIn_wide.2 (HF.out _ _ ⟨hx1,hbx1,hlt1,hbs1,hm1,HS1,HJ1⟩)).mono ?_;rintro _ w2 ⟨rfl,hx2,hbx2,hlt2,hbs2,hm2,HS2,HJ2⟩))
     go_roundw
     case rel=>exact ⟨_,Bun.rel ⟨hx2,hbx2,hlt2,hbs2,hm2,HS2,HJ2⟩ HL2.out⟩
     case measure=>exact (Bun.rel ⟨hx2,hbx2,hlt2,hbs2,hm2,HS2,HJ2⟩ HL2.out).meas HLT.out HK1.out
theorem solt_seq (b bx base:Nat) (Im:Nat→Prop) (C:Cst) (vf vp:Value) (P:List Int) (W:World) (h:SR W b Im C vf vp P) (he:Even C) (hx:W.cell? ⟨bx,0,none⟩=some (.pointer (some ⟨b,0,none⟩))) (hbx:bx<W.heap.size) (hnb:¬Mut b vf vp bx) (hbase:base≤W.heap.size) :
  SeqM Tryz.prog 193 #[.pointer (some ⟨bx,0,none⟩)] encS NewS (GivenT C.g.length Im bx base) (KpS Im bx) (fun xs=>xs.map Prod.snd=sols C P) (fun pre=>pre.map Prod.snd <+: sols C P∧pre≠[]) (Mut b vf vp) W :=
 fun l J Jx W1 hb hJ _ hY h0=>sol1t_c b bx base Im C vf vp P W1 (h.below hb) he (((bcell hb).1 _ _ hbx).trans hx) (Nat.lt_of_lt_of_le hbx hb.size) hnb (Nat.le_trans hbase hb.size) l J Jx hJ hY h0
theorem wp_range_solt {g:Operand} {p:Tmp} {assign body:Code} {Q:Exit→Act→World→Prop} {a:Act} {w:World} {b bx:Nat} {Im:Nat→Prop} {C:Cst} {vf vp:Value} {P:List Int}
  (h:SR w b Im C vf vp P) (he:Even C) (hx:w.cell? ⟨bx,0,none⟩=some (.pointer (some ⟨b,0,none⟩))) (hbx:bx<w.heap.size) (hnb:¬Mut b vf vp bx) (hg:a.eval g=solV bx)
  (I:List (Value × List Int)→(Nat→Prop)→World→Prop) (Ix:Code→List (Value × List Int)→(Nat→Prop)→World→Prop) (hI:StableL w.heap.size I) (hIx:∀c,StableL w.heap.size (Ix c)) (h0:I [] (Mut b vf vp) w) (a₁:Value × List Int→Act)
  (hassign:∀(l:Nat) (x:Value × List Int) (W:World) (K:Act→World→Prop),K (a₁ x) W →
   assign.wpIn (Fence.wide.inRound l) 0 Tryz.prog (Exit.then K (fun _ _ _=>False)) { tmps:=a.tmps.setIfInBounds p x.1,defers:=[] } W)
  (hbody:∀(l:Nat) (pre:List (Value × List Int)) (x:Value × List Int) (M:Nat→Prop) (W0 W:World),I pre M W0→StaysL w.heap.size (fun _=>False) W0 W→NewS x W0→GivenT C.g.length Im bx w.heap.size x M W→body.wpIn (Fence.wide.inRound l) 0 Tryz.prog (ownPostM (KpS Im bx) I Ix (pre++[x]) M W) (a₁ x) W)
  (hdone:∀(D:Nat) (xs:List (Value × List Int)) (M:Nat→Prop) (W:World),w.heap.size≤D→xs.map Prod.snd=solsL C.ls C.sum C.g P→I xs M W→W.heap[D]?=some (.deferred (some []))→Q .normal { a with defers:={ target := .collected D,args:=#[] } :: a.defers } W)
  (hstop:∀(D:Nat) (c:Code) (pre:List (Value × List Int)) (M:Nat→Prop) (W:World),w.heap.size≤D→pre.map Prod.snd <+: solsL C.ls C.sum C.g P→pre≠[]→Ix c pre M W→W.heap[D]?=some (.deferred (some []))→c.wp Tryz.prog Q { a with defers:={ target := .collected D,args:=#[] } :: a.defers } W) :
  (Code.rangeFunc g #[p] assign body).wp Tryz.prog Q a w:=by
 refine wp_rangeFunc_M (gf:=193) (lb:=#[.pointer (some ⟨bx,0,none⟩)]) hg (enters_of Tryz.func193 (by kernel_rfl) rfl)
  (solt_seq b bx w.heap.size Im C vf vp P w h he hx hbx hnb (Nat.le_refl _)) (fun k hk=>h.mutLt hk) (fun x M W l o o' hG _ _ hl ho=>hG.putObj hl ho) (fun h k=>h.trans k)
  (fun M W l o o' hl hm _ _=>KpS.putObj o' h.imLt hbx hl hm) (fun _=>rfl) I Ix hI hIx h0 a₁ (fun l x W K hK=>by
   have e:(#[p].zip (encS x)).foldl (fun t (p,v)=>t.setIfInBounds p v) a.tmps=a.tmps.setIfInBounds p x.1:=by simp[encS]
   rw[e];exact hassign l x W K hK) hbody (fun D xs M W hD hS=>hdone D xs M W hD (by rw[hS,sols_pl])) (fun D c pre M W hD hS=>hstop D c pre M W hD (by rw[← sols_pl];exact hS.1) hS.2)
end
section
open Go Go.RowKit
section
variable {P:Program} {ops:Array Oper} {Q:Exit→Act→World→Prop} {md:Region.Mode} {l0 n:Nat}
theorem upon_to_In {o:Oper} {a:Act} {next:Act→World→Prop} {r:Result Next} (h:o.upon P a next Q r):o.uponIn (Fence.wide.inRound l0) n P a next Q r:=by
 cases r with
 | ok x w =>
  cases x <;> simp only[Oper.upon] at h <;> first|exact h|exact h.elim|skip
  ·exact ⟨fun e=>absurd e (by simp[Fence.wide]),CallsIn.inRound l0 (callsIn_wide.2 h)⟩
  ·refine ⟨fun e=>absurd e (by simp[Fence.wide]),fun c cs _=>?_⟩
   obtain ⟨v,w',hr,hs⟩:=h c cs
   exact ⟨v,w',hr,stepsIn_wide.2 hs⟩
 | halt x w =>
  cases x <;> simp only[Oper.upon] at h <;> first|exact h|exact h.elim
theorem wpOp_to_In (hd:∀(i:Nat) (o:Oper),ops[i]?=some o→∀c,o.op≠Op.defer c) (hlo:¬LetsOut Q) {i:Nat} {K:Act→World→Prop} {a:Act} {w:World} (h:wpOp P ops Q i K a w):wpOpIn (Fence.wide.inRound l0) n P ops Q i K a w:=by
 unfold wpOp at h
 unfold wpOpIn
 cases ho:ops[i]? with
 | none=>rw[ho] at h;exact h
 | some o =>
  rw[ho] at h
  simp only at h ⊢
  split
  ·rename_i hw
   rw[if_pos hw] at h
   rcases h with h|⟨_,h⟩
   ·refine ⟨fun _ _=>trivial,?_⟩
    rw[Oper.semAt_plain _ _ _ (hd i o ho)]
    exact upon_to_In h
   ·exact absurd h hlo
  ·rename_i hw
   rw[if_neg hw] at h
   exact ⟨fun _ _=>trivial,h⟩
theorem wpAny_to_In (hd:∀(i:Nat) (o:Oper),ops[i]?=some o→∀c,o.op≠Op.defer c) (hlo:¬LetsOut Q):∀(fuel:Nat) (listed:Array Bool) (a:Act) (w:World),wpAny P md ops Q fuel listed a w→wpAnyIn (Fence.wide.inRound l0) n P md ops Q fuel listed a w
 | 0,_,_,_,h=>h
 | fuel+1,_,_,_,h=>⟨h.1,fun i hi=>wpOpIn_mono (fun a' w' h'=>wpAny_to_In hd hlo fuel _ a' w' h') (wpOp_to_In hd hlo (h.2 i hi))⟩
def noDefer (l:List Oper):Bool:=l.all fun o=>match o.op with | .defer _=>false|_=>true
theorem wpIn_region_S {id:Nat} {l:List Oper} {a:Act} {w:World} (S:World→Prop) (lt:List Nat) (seq:List (Nat × Nat))
  (hm:P.follows .mixedOrders=true) (hc:(Region.noSelect l.toArray&&decide (seq.length≤l.length)&&seqOk .any l.toArray lt seq (Array.replicate l.length false))=true) (hnd:noDefer l=true) (hlo:∀a w,Q .outgrown a w→False)
  (hS:S w.drew)
  (h:wpS P l.toArray S (NoPanic Q) (pickOps l seq) a w.drew):(Code.region id l.toArray true).wpIn (Fence.wide.inRound l0) n P Q a w:=by
 refine wpIn_mono ?_ NoPanic.imp
 simp only[Bool.and_eq_true,decide_eq_true_eq] at hc
 obtain ⟨⟨hs,hlen⟩,hc⟩:=hc
 refine wpIn_region_any hm (wpAny_to_In ?_ ?_ _ _ _ _ ?_)
 ·intro i o ho c hcc
  have h1:=List.all_eq_true.1 hnd o (by
   have:l[i]?=some o:=by simpa using ho
   exact List.mem_of_getElem? this)
  rw[hcc] at h1
  cases h1
 ·rintro ⟨a',w',hq⟩
  exact hlo a' w' hq
 obtain ⟨m,hm'⟩:∃m,l.toArray.size=seq.length+m:=⟨l.length - seq.length,by simp;omega⟩
 rw[hm']
 refine wpAny_more _ _ _ _ _ (wpAny_of_L (S:=S) (late:=fun i=>lt.contains i) _ _ _ _ ?_)
 have e:Array.replicate (seq.length+m) false=Array.replicate l.length false:=by rw[← hm'];simp
 rw[e]
 exact wpL_of_S hs lt (fun _ _ _ _ _ h=>h) seq _ a w.drew (closed_none _) (fun _=>hS) hc h
end
end
end Go.Proofs.YtaadpihbjhachaaGreat
