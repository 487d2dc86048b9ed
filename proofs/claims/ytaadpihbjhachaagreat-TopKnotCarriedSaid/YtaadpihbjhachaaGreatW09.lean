/- Texts I2 to I4 of this proof, in one file. -/
import Derived.Test.YtaadpihbjhachaaGreatW08
import Derived.RangeFuncBound
import Derived.Shelf.Abstract
namespace Go.Proofs.YtaadpihbjhachaaGreat
set_option maxRecDepth 100000
set_option maxHeartbeats 16000000
section
open Go Go.RowKit
attribute [local go_sem] over_cell
attribute [local go_sem] Oper.semAt_some
theorem wide_fn (f:FuncId):Fence.wide.fn f:=trivial
theorem wide_depth:Fence.wide.depth=none:=rfl
theorem wide_all {o:Option FuncId}:∀f,o=some f→Fence.wide.fn f:=fun _ _=>trivial
def sols (C:Cst) (P:List Int):List (List Int):=if C.O.length=0 then (if wrongB C P=true then [] else [fillP C P]) else found C P
def KbS (Im:Nat→Prop) (bx:Nat) (M:Nat→Prop) (k:Nat):Prop:=Im k∨M k∨k=bx
def KpS (Im:Nat→Prop) (bx:Nat) (M:Nat→Prop) (A B:World):Prop:=A.heap.size≤B.heap.size∧∀k,k<A.heap.size→KbS Im bx M k→B.heap[k]?=A.heap[k]?
def NewS (x:Value × List Int) (W0:World):Prop:=∀k,x.1.ownBlock=some k→W0.heap.size≤k
def GivenS (Im:Nat→Prop) (bx base:Nat) (x:Value × List Int) (M:Nat→Prop) (W:World):Prop :=
 W.ownsRow base 3 1 x.1 x.2.length (x.2.map (Value.int .i64))∧(∀k,x.1.ownBlock=some k→¬KbS Im bx M k)∧∀k,M k→k<W.heap.size
def encS (x:Value × List Int):Array Value:=#[x.1]
theorem GivenS.putObj {Im:Nat→Prop} {bx base:Nat} {x:Value × List Int} {M:Nat→Prop} {W:World} {l:Nat} {o o':Obj} (h:GivenS Im bx base x M W) (hl:W.heap[l]?=some o) (ho:o.isCells=false):GivenS Im bx base x M (W.putObj l o') :=
 ⟨(StaysL.putObj (L:=l) (fun _=>False) o' (Nat.le_refl _) hl ho).owns h.1 (fun _ _ e=>e),h.2.1,fun k hk=>Nat.lt_of_lt_of_le (h.2.2 k hk) (grownBy_putObj' W l o').size⟩
theorem KpS.trans {Im:Nat→Prop} {bx:Nat} {M:Nat→Prop} {A B C:World} (h:KpS Im bx M A B) (k:KpS Im bx M B C):KpS Im bx M A C :=
 ⟨Nat.le_trans h.1 k.1,fun i hi hk=>(k.2 i (Nat.lt_of_lt_of_le hi h.1) hk).trans (h.2 i hi hk)⟩
theorem KpS.putObj {Im:Nat→Prop} {bx:Nat} {M:Nat→Prop} {W:World} {l n:Nat} (o':Obj) (hI:∀k,Im k→k<n) (hbx:bx<n) (hl:n≤l) (hm:¬M l):KpS Im bx M W (W.putObj l o') :=
 ⟨by simp,fun k _ hk=>World.putObj_heap_other (by
  rintro rfl
  rcases hk with hk|hk|hk
  ·have:=hI _ hk;omega
  ·exact hm hk
  ·omega)⟩
theorem KpS.setCell {Im:Nat→Prop} {bx:Nat} {M:Nat→Prop} {W:World} {b i:Nat} (v:Value) (hb:¬KbS Im bx M b):KpS Im bx M W (W.setCell ⟨b,i,none⟩ v) :=
 ⟨(KeepsOthers.setCell W _ v).size,fun k _ hk=>Below.heap_setCell _ _ _ _ (fun e=>hb (by simp only at e;rw[← e];exact hk))⟩
def SolRel (b bx base:Nat) (Im:Nat→Prop) (C:Cst) (vf:Value) (J:List (Value × List Int)→(Nat→Prop)→World→Prop) (L:List (List Int)) (wr:World) (k:Nat):Prop :=
 ∃pre P vp,k=fuelP C P∧SR wr b Im C vf vp P∧wr.cell? ⟨bx,0,none⟩=some (.pointer (some ⟨b,0,none⟩))∧bx<wr.heap.size∧¬Mut b vf vp bx∧base≤wr.heap.size∧J pre (Mut b vf vp) wr∧pre.map Prod.snd++found C P=L
theorem Mut.new {b:Nat} {vf vp vp':Value} {n:Nat} (h:∀k,vp'.ownBlock=some k→vp.ownBlock=some k∨n≤k):∀k,Mut b vf vp' k→Mut b vf vp k∨n≤k:=by
 rintro k (e|e|e)
 ·exact .inl (.inl e)
 ·exact .inl (.inr (.inl e))
 ·exact (h k e).imp (fun e => .inr (.inr e)) id
theorem SR.mutLt {w:World} {b:Nat} {Im:Nat→Prop} {C:Cst} {vf vp:Value} {P:List Int} (h:SR w b Im C vf vp P) {k:Nat} (hk:Mut b vf vp k):k<w.heap.size:=by
 rcases hk with e|e|e
 ·rw[e];exact h.lt
 ·exact (h.f.lt _ e).2
 ·exact (h.p.lt _ e).2
def Bun (b bx base:Nat) (Im:Nat→Prop) (C:Cst) (vf:Value) (J:List (Value × List Int)→(Nat→Prop)→World→Prop) (P:List Int) (pre:List (Value × List Int)) (vp:Value) (w:World):Prop :=
 w.cell? ⟨bx,0,none⟩=some (.pointer (some ⟨b,0,none⟩))∧bx<w.heap.size∧b<w.heap.size∧base≤w.heap.size∧¬Mut b vf vp bx∧Hid (SR w b Im C vf vp P)∧Hid (J pre (Mut b vf vp) w)
theorem Bun.below {b bx base:Nat} {Im:Nat→Prop} {C:Cst} {vf:Value} {J:List (Value × List Int)→(Nat→Prop)→World→Prop} {P:List Int} {pre:List (Value × List Int)} {vp:Value} {w w':World} (hJ:StableM J)
  (h:Bun b bx base Im C vf J P pre vp w) (hb:Below w.heap.size w w'):Bun b bx base Im C vf J P pre vp w':=by
 obtain ⟨h1,h2,h3,h4,h5,h6,h7⟩:=h
 have hs:=hb.size
 exact ⟨((bcell hb).1 _ _ h2).trans h1,by omega,by omega,by omega,h5,Lib.hid (h6.out.below hb),Lib.hid (hJ _ _ _ _ _ h7.out (Below.stays hb _) (fun k e => .inl e))⟩
theorem Bun.rel {b bx base:Nat} {Im:Nat→Prop} {C:Cst} {vf:Value} {J:List (Value × List Int)→(Nat→Prop)→World→Prop} {P:List Int} {pre:List (Value × List Int)} {vp:Value} {w:World} {L:List (List Int)}
  (h:Bun b bx base Im C vf J P pre vp w) (hL:pre.map Prod.snd++found C P=L):SolRel b bx base Im C vf J L w (fuelP C P):=by
 obtain ⟨h1,h2,h3,h4,h5,h6,h7⟩:=h
 exact ⟨pre,P,vp,rfl,h6.out,h1,h2,h5,h4,h7.out,hL⟩
theorem SolRel.meas {b bx base:Nat} {Im:Nat→Prop} {C:Cst} {vf:Value} {J:List (Value × List Int)→(Nat→Prop)→World→Prop} {L:List (List Int)} {w:World} {k m n:Nat}
  (h:SolRel b bx base Im C vf J L w k) (hk:k<m) (hm:n=m):leastOf (SolRel b bx base Im C vf J L w)<n:=by
 rw[hm]
 exact Nat.lt_of_le_of_lt ((leastOf_spec ⟨k,h⟩).2 k h) hk
theorem sol1_c (b bx base:Nat) (Im:Nat→Prop) (C:Cst) (vf vp:Value) (P:List Int) (W:World) (h:SR W b Im C vf vp P) (he:Even C) (hx:W.cell? ⟨bx,0,none⟩=some (.pointer (some ⟨b,0,none⟩))) (hbx:bx<W.heap.size) (hnb:¬Mut b vf vp bx) (hbase:base≤W.heap.size)
  (l:Nat) (J Jx:List (Value × List Int)→(Nat→Prop)→World→Prop) (hJ:StableM J)
  (hY:∀pre x M W0 W1,J pre M W0→Below W0.heap.size W0 W1→NewS x W0→GivenS Im bx base x M W1→YieldAt Fence.wide 0 Tryz.prog l (encS x) W1 fun e W' =>
   (e = .returned (.bool true)∧J (pre++[x]) M W'∧KpS Im bx M W1 W')∨(e = .returned (.bool false)∧Jx (pre++[x]) M W'∧KpS Im bx M W1 W'))
  (h0:J [] (Mut b vf vp) W) :
  Calls Tryz.prog 193 #[.func (.yield l) #[] #[],.pointer (some ⟨bx,0,none⟩)] W fun e W'=>(∃v,e = .returned v) ∧
   ((∃xs M,xs.map Prod.snd=sols C P∧J xs M W')∨(∃pre M,(pre.map Prod.snd <+: sols C P∧pre≠[])∧Jx pre M W')):=by
 have c4:=h.c4
 have hlt:=h.lt
 have H:=Lib.hid h
 have HJ:=Lib.hid hJ
 have HY:=Lib.hid hY
 have H0:=Lib.hid h0
 have HE:=Lib.hid he
 clear h hJ hY h0 he
 by_cases hO:C.O.length=0
 ·have hOb:(((C.O.length:Nat):Int)==0)=true:=by rw[beq_iff_eq];omega
  have HW:=Lib.hid ((wrong_c b Im C vf vp P W H.out).mono (fun e w' hh=>And.intro hh.1 (Bun.below (b:=b) (bx:=bx) (base:=base) (Im:=Im) (C:=C) (vf:=vf) (J:=J) (P:=P) (pre:=[]) (vp:=vp) HJ.out ⟨hx,hbx,hlt,hbase,hnb,H,H0⟩ hh.2)))
  obtain ⟨af,nf,cf,rfl⟩:∃af nf cf,vf = .slice af nf cf:=by
   obtain ⟨a,c,e⟩:=owns_shape H.out.f
   exact ⟨_,_,_,e⟩
  by_cases hw:wrongB C P=true
  ·have HS:Hid (sols C P=[]):=by unfold Hid sols;rw[if_pos hO,if_pos hw]
   rw[hw] at HW
   clear hO hw
   refine (callsIn_wide (n:=0)).1 (callsIn_of_wp Tryz.func193 rfl trivial ?_ rfl)
   simp only[Tryz.ntmps193,List.size_toArray,List.length_cons,List.length_nil,Nat.reduceAdd,Nat.reduceSub,Array.replicate_succ,Array.replicate_zero,List.push_toArray,List.append_toArray,List.nil_append,List.cons_append]
   gi_wp2_with (first|(with_reducible refine ⟨wide_fn _,?_⟩)|(with_reducible refine ⟨wide_depth,?_⟩)|(with_reducible refine ⟨wide_all,?_⟩)|(gi_at_call 133;refine (callsIn_wide.2 HW.out).mono ?_;rintro _ w3 ⟨rfl,hx3,hbx3,hlt3,hbs3,hm3,HS3,HJ3⟩;have c10:=HS3.out.c10))
   refine bodyPost_ret (results_none rfl _ _ _) rfl ?_
   exact ⟨⟨_,rfl⟩,.inl ⟨[],_,by rw[HS.out];rfl,HJ3.out⟩⟩
  ·have HS:Hid (sols C P=[fillP C P]):=by unfold Hid sols;rw[if_pos hO,if_neg hw]
   have hw':wrongB C P=false:=by simpa using hw
   have HC:=Lib.hid (fun w3 vp2 (hb:Bun b bx base Im C (.slice af nf cf) J P [] vp2 w3)=>(clone_c af nf cf (fillP C P) w3 hb.2.2.2.2.2.1.out.ic.1).mono (fun e w' h=>show ∃v,e = .returned v∧YieldAt Fence.wide 0 Tryz.prog l #[v] w' (fun e W'=>(e = .returned (.bool true)∧Hid (∃xs M,xs.map Prod.snd=[fillP C P]∧J xs M W'))∨(e = .returned (.bool false)∧Hid (∃pre' M,(pre'.map Prod.snd <+: [fillP C P]∧pre'≠[])∧Jx pre' M W'))) from by
    obtain ⟨v,he,hown,hbl⟩:=h
    refine ⟨v,he,?_⟩
    obtain ⟨h1,h2,h3,h4,h5,h6,h7⟩:=hb
    refine YieldAt.mono (HY.out [] (v,fillP C P) _ w3 w' h7.out hbl (fun k e=>(hown.lt k e).1) ⟨owns_up (owns_base hown (Nat.zero_le _)) (fun k e=>by have:=(hown.lt k e).1;omega),fun k e hk=>?_,fun k hk=>Nat.lt_of_lt_of_le (h6.out.mutLt hk) hbl.size⟩) ?_
    ·have hge:=(hown.lt k e).1
     rcases hk with hk|hk|hk
     ·have:=h6.out.imLt k hk;omega
     ·have:=h6.out.mutLt hk;omega
     ·omega
    ·rintro e5 W5 (⟨he5,hJ5,hk5⟩|⟨he5,hJ5,_⟩)
     ·exact .inl ⟨he5,Lib.hid ⟨_,_,rfl,hJ5⟩⟩
     ·exact .inr ⟨he5,Lib.hid ⟨_,_,⟨List.prefix_refl _,by simp⟩,hJ5⟩⟩))
   rw[hw'] at HW
   clear hO hw hw'
   refine (callsIn_wide (n:=0)).1 (callsIn_of_wp Tryz.func193 rfl trivial ?_ rfl)
   simp only[Tryz.ntmps193,List.size_toArray,List.length_cons,List.length_nil,Nat.reduceAdd,Nat.reduceSub,Array.replicate_succ,Array.replicate_zero,List.push_toArray,List.append_toArray,List.nil_append,List.cons_append]
   gi_wp2_with (first|(with_reducible refine ⟨wide_fn _,?_⟩)|(with_reducible refine ⟨wide_depth,?_⟩)|(with_reducible refine ⟨wide_all,?_⟩)|(gi_at_call 133;refine (callsIn_wide.2 HW.out).mono ?_;rintro _ w3 ⟨rfl,hx3,hbx3,hlt3,hbs3,hm3,HS3,HJ3⟩;have c10:=HS3.out.c10)|(gi_at_call 71;refine (callsIn_wide.2 (HC.out _ _ ⟨hx3,hbx3,hlt3,hbs3,hm3,HS3,HJ3⟩)).mono ?_;rintro _ w4 ⟨v4,rfl,fn,tmps,assign,body,hy,hR⟩))
   refine hR.mono ?_
   rintro e5 w5 (⟨rfl,hr5⟩|⟨rfl,hr5⟩)
   ·gi_wp2_with (first|(with_reducible refine ⟨wide_fn _,?_⟩)|(with_reducible refine ⟨wide_depth,?_⟩)|(with_reducible refine ⟨wide_all,?_⟩))
    refine bodyPost_ret (results_none rfl _ _ _) rfl ?_
    obtain ⟨xs,M,h1,h2⟩:=hr5.out
    exact ⟨⟨_,rfl⟩,.inl ⟨xs,M,by rw[HS.out];exact h1,h2⟩⟩
   ·gi_wp2_with (first|(with_reducible refine ⟨wide_fn _,?_⟩)|(with_reducible refine ⟨wide_depth,?_⟩)|(with_reducible refine ⟨wide_all,?_⟩))
    refine bodyPost_ret (results_none rfl _ _ _) rfl ?_
    obtain ⟨pre',M,h1,h2⟩:=hr5.out
    exact ⟨⟨_,rfl⟩,.inr ⟨pre',M,by rw[HS.out];exact h1,h2⟩⟩
 ·have hOb:(((C.O.length:Nat):Int)==0)=false:=by rw[beq_eq_false_iff_ne];omega
  have HS:Hid (sols C P=found C P):=if_neg hO
  have HO:=Lib.hid hO
  clear hO
  refine (callsIn_wide (n:=0)).1 (callsIn_of_wp Tryz.func193 rfl trivial ?_ rfl)
  simp only[Tryz.ntmps193,List.size_toArray,List.length_cons,List.length_nil,Nat.reduceAdd,Nat.reduceSub,Array.replicate_succ,Array.replicate_zero,List.push_toArray,List.append_toArray,List.nil_append,List.cons_append]
  gi_wp2
  gi_loopw [] (fun wr=>∃k,SolRel b bx base Im C vf J (found C P) wr k) (fun wr=>leastOf (SolRel b bx base Im C vf J (found C P) wr))
  case atStart=>exact ⟨_,[],P,vp,rfl,H.out,hx,hbx,hnb,hbase,H0.out,by simp⟩
  case round =>
   have hsp:=(leastOf_spec hrel).1
   have HK:=Lib.hid (rfl:leastOf (SolRel b bx base Im C vf J (found C P) wr)=leastOf (SolRel b bx base Im C vf J (found C P) wr))
   obtain ⟨pre,P1,vp1,hk1,hsr,hx1,hbx1,hnb1,hbase1,hJ1,hfound⟩:=hsp
   clear hrel
   have hlt1:=hsr.lt
   have HFD:=Lib.hid hfound
   have HJ1:=Lib.hid hJ1
   have HK1:=Lib.hid hk1
   clear hfound hJ1 hk1
   have HST:=Lib.hid (found_step HE.out hsr.fine hsr.ok)
   cases hn:nextP C P1 with
   | none =>
    have HN:Hid (Calls Tryz.prog 131 #[.pointer (some ⟨b,0,none⟩)] wr fun e w'=>e = .returned (.bool false)∧Stepped wr w' b Im C vf vp1 []):=by
     have:=next_c b Im C vf vp1 P1 wr hsr HE.out
     rw[hn] at this
     exact this
    have HST2:Hid (found C P1=[]):=by have:=HST.out;rw[hn] at this;exact this
    clear hn HST hsr
    gi_wp2_with (first|(with_reducible refine ⟨wide_fn _,?_⟩)|(with_reducible refine ⟨wide_depth,?_⟩)|(with_reducible refine ⟨wide_all,?_⟩)|(gi_at_call 131;refine (callsIn_wide.2 HN.out).mono ?_;rintro _ w1 ⟨rfl,vp2,hsr2,hst2,hk2⟩))
    go_end0
    refine ⟨⟨_,rfl⟩,.inl ⟨pre,_,?_,HJ.out _ _ _ _ _ HJ1.out hst2 (Mut.new hk2)⟩⟩
    have:=HFD.out
    rw[HST2.out,List.append_nil] at this
    rw[this,HS.out]
   | some P2 =>
    have HN:Hid (Calls Tryz.prog 131 #[.pointer (some ⟨b,0,none⟩)] wr fun e w'=>e = .returned (.bool true)∧∃vp2,Bun b bx base Im C vf J P2 pre vp2 w'):=by
     have:=next_c b Im C vf vp1 P1 wr hsr HE.out
     rw[hn] at this
     refine this.mono ?_
     rintro e w1 ⟨he,vp2,hsr2,hst2,hk2⟩
     have hs:=hst2.size
     exact ⟨he,vp2,(hst2.cell hbx1 hnb1).trans hx1,by omega,hsr2.lt,by omega,fun e=>(Mut.new hk2 bx e).elim hnb1 (fun h=>by omega),Lib.hid hsr2,Lib.hid (HJ.out _ _ _ _ _ HJ1.out hst2 (Mut.new hk2))⟩
    have HST2:Hid (found C P1=(if (P2.length==C.O.length)=true∧wrongB C P2=false then [fillP C P2] else [])++found C P2):=by have:=HST.out;rw[hn] at this;exact this
    have HLT:=Lib.hid (fuelP_lt HE.out hsr.fine hsr.ok hn)
    have HF:=Lib.hid (fun w1 vp2 (hb:Bun b bx base Im C vf J P2 pre vp2 w1)=>(full_c b Im C vf vp2 P2 w1 hb.2.2.2.2.2.1.out).mono (fun e w' h=>And.intro h.1 (hb.below HJ.out h.2)))
    obtain ⟨af,nf,cf,rfl⟩:∃af nf cf,vf = .slice af nf cf:=by
     obtain ⟨a,c,e⟩:=owns_shape hsr.f
     exact ⟨_,_,_,e⟩
    have HC:=Lib.hid (fun w3 vp2 (hb:Bun b bx base Im C (.slice af nf cf) J P2 pre vp2 w3) (hL:∀v,(pre++[(v,fillP C P2)]).map Prod.snd++found C P2=found C P)=>(clone_c af nf cf (fillP C P2) w3 hb.2.2.2.2.2.1.out.ic.1).mono (fun e w' h=>show ∃v,e = .returned v∧YieldAt Fence.wide 0 Tryz.prog l #[v] w' (fun e W'=>(e = .returned (.bool true)∧Hid (SolRel b bx base Im C (.slice af nf cf) J (found C P) W' (fuelP C P2)))∨(e = .returned (.bool false)∧Hid (∃pre' M,(pre'.map Prod.snd <+: found C P∧pre'≠[])∧Jx pre' M W'))) from by
     obtain ⟨v,he,hown,hbl⟩:=h
     refine ⟨v,he,?_⟩
     have hb4:=hb.below HJ.out hbl
     obtain ⟨h1,h2,h3,h4,h5,h6,h7⟩:=hb
     refine YieldAt.mono (HY.out pre (v,fillP C P2) _ w3 w' h7.out hbl (fun k e=>(hown.lt k e).1) ⟨owns_up (owns_base hown (Nat.zero_le _)) (fun k e=>by have:=(hown.lt k e).1;omega),fun k e hk=>?_,fun k hk=>Nat.lt_of_lt_of_le (h6.out.mutLt hk) hbl.size⟩) ?_
     ·have hge:=(hown.lt k e).1
      rcases hk with hk|hk|hk
      ·have:=h6.out.imLt k hk;omega
      ·have:=h6.out.mutLt hk;omega
      ·omega
     ·rintro e5 W5 (⟨he5,hJ5,hk5⟩|⟨he5,hJ5,_⟩)
      ·refine .inl ⟨he5,Lib.hid ?_⟩
       obtain ⟨g1,g2,g3,g4,g5,g6,g7⟩:=hb4
       exact ⟨_,P2,vp2,rfl,g6.out.keep hk5.1 (fun k hlt hk=>hk5.2 k hlt (hk.imp id .inl)),(World.cell?_of_block (hk5.2 bx g2 (.inr (.inr rfl)))).trans g1,Nat.lt_of_lt_of_le g2 hk5.1,g5,Nat.le_trans g4 hk5.1,hJ5,hL v⟩
      ·refine .inr ⟨he5,Lib.hid ⟨_,_,⟨⟨found C P2,hL v⟩,by simp⟩,hJ5⟩⟩))
    have HW:=Lib.hid (fun w1 vp2 (hb:Bun b bx base Im C (.slice af nf cf) J P2 pre vp2 w1)=>(wrong_c b Im C (.slice af nf cf) vp2 P2 w1 hb.2.2.2.2.2.1.out).mono (fun e w' h=>And.intro h.1 (hb.below HJ.out h.2)))
    clear hn HST hsr HJ1
    by_cases hf:(P2.length==C.O.length)=true
    ·by_cases hw:wrongB C P2=true
     ·have HL2:Hid (pre.map Prod.snd++found C P2=found C P):=by
       have h1:=HST2.out
       rw[if_neg (fun e=>by rw[hw] at e;exact absurd e.2 (by decide)),List.nil_append] at h1
       exact h1▸HFD.out
      rw[hf] at HF
      rw[hw] at HW
      clear hf hw HC
      gi_wp2_with (first|(with_reducible refine ⟨wide_fn _,?_⟩)|(with_reducible refine ⟨wide_depth,?_⟩)|(with_reducible refine ⟨wide_all,?_⟩)|(gi_at_call 131;refine (callsIn_wide.2 HN.out).mono ?_;rintro _ w1 ⟨rfl,vp2,hx1,hbx1,hlt1,hbs1,hm1,HS1,HJ1⟩)|(gi_at_call 132;refine (callsIn_wide.2 (HF.out _ _ ⟨hx1,hbx1,hlt1,hbs1,hm1,HS1,HJ1⟩)).mono ?_;rintro _ w2 ⟨rfl,hx2,hbx2,hlt2,hbs2,hm2,HS2,HJ2⟩)|(gi_at_call 133;refine (callsIn_wide.2 (HW.out _ _ ⟨hx2,hbx2,hlt2,hbs2,hm2,HS2,HJ2⟩)).mono ?_;rintro _ w3 ⟨rfl,hx3,hbx3,hlt3,hbs3,hm3,HS3,HJ3⟩;have c10:=HS3.out.c10))
      go_roundw
      case rel=>exact ⟨_,Bun.rel ⟨hx3,hbx3,hlt3,hbs3,hm3,HS3,HJ3⟩ HL2.out⟩
      case measure=>exact (Bun.rel ⟨hx3,hbx3,hlt3,hbs3,hm3,HS3,HJ3⟩ HL2.out).meas HLT.out HK1.out
     ·have hw':wrongB C P2=false:=by simpa using hw
      have HL2:Hid (∀v,(pre++[(v,fillP C P2)]).map Prod.snd++found C P2=found C P):=fun v=>by
       have h1:=HST2.out
       rw[if_pos ⟨hf,hw'⟩] at h1
       have h2:=h1▸HFD.out
       simpa using h2
      have HC2:=Lib.hid (fun w3 vp2 (hb:Bun b bx base Im C (.slice af nf cf) J P2 pre vp2 w3)=>HC.out w3 vp2 hb HL2.out)
      rw[hf] at HF
      rw[hw'] at HW
      clear hf hw hw' HC
      gi_wp2_with (first|(with_reducible refine ⟨wide_fn _,?_⟩)|(with_reducible refine ⟨wide_depth,?_⟩)|(with_reducible refine ⟨wide_all,?_⟩)|(gi_at_call 131;refine (callsIn_wide.2 HN.out).mono ?_;rintro _ w1 ⟨rfl,vp2,hx1,hbx1,hlt1,hbs1,hm1,HS1,HJ1⟩)|(gi_at_call 132;refine (callsIn_wide.2 (HF.out _ _ ⟨hx1,hbx1,hlt1,hbs1,hm1,HS1,HJ1⟩)).mono ?_;rintro _ w2 ⟨rfl,hx2,hbx2,hlt2,hbs2,hm2,HS2,HJ2⟩)|(gi_at_call 133;refine (callsIn_wide.2 (HW.out _ _ ⟨hx2,hbx2,hlt2,hbs2,hm2,HS2,HJ2⟩)).mono ?_;rintro _ w3 ⟨rfl,hx3,hbx3,hlt3,hbs3,hm3,HS3,HJ3⟩;have c10:=HS3.out.c10)|(gi_at_call 71;refine (callsIn_wide.2 (HC2.out _ _ ⟨hx3,hbx3,hlt3,hbs3,hm3,HS3,HJ3⟩)).mono ?_;rintro _ w4 ⟨v4,rfl,fn,tmps,assign,body,hy,hR⟩))
      refine hR.mono ?_
      rintro e5 w5 (⟨rfl,hr5⟩|⟨rfl,hr5⟩)
      ·gi_wp2_with (first|(with_reducible refine ⟨wide_fn _,?_⟩)|(with_reducible refine ⟨wide_depth,?_⟩)|(with_reducible refine ⟨wide_all,?_⟩))
       go_roundw
       case rel=>exact ⟨_,hr5.out⟩
       case measure=>exact hr5.out.meas HLT.out HK1.out
      ·gi_wp2_with (first|(with_reducible refine ⟨wide_fn _,?_⟩)|(with_reducible refine ⟨wide_depth,?_⟩)|(with_reducible refine ⟨wide_all,?_⟩))
       refine bodyPost_ret (results_none rfl _ _ _) rfl ?_
       obtain ⟨pre',M,h1,h2⟩:=hr5.out
       exact ⟨⟨_,rfl⟩,.inr ⟨pre',M,by rw[HS.out];exact h1,h2⟩⟩
    ·have hf':(P2.length==C.O.length)=false:=by simpa using hf
     have HL2:Hid (pre.map Prod.snd++found C P2=found C P):=by
      have h1:=HST2.out
      rw[if_neg (fun e=>by rw[hf'] at e;exact absurd e.1 (by decide)),List.nil_append] at h1
      exact h1▸HFD.out
     rw[hf'] at HF
     clear hf hf' HC HW
     gi_wp2_with (first|(with_reducible refine ⟨wide_fn _,?_⟩)|(with_reducible refine ⟨wide_depth,?_⟩)|(with_reducible refine ⟨wide_all,?_⟩)|(gi_at_call 131;refine (callsIn_wide.2 HN.out).mono ?_;rintro _ w1 ⟨rfl,vp2,hx1,hbx1,hlt1,hbs1,hm1,HS1,HJ1⟩)|(gi_at_call 132;refine (callsIn_wide.2 (HF.out _ _ ⟨hx1,hbx1,hlt1,hbs1,hm1,HS1,HJ1⟩)).mono ?_;rintro _ w2 ⟨rfl,hx2,hbx2,hlt2,hbs2,hm2,HS2,HJ2⟩))
     go_roundw
     case rel=>exact ⟨_,Bun.rel ⟨hx2,hbx2,hlt2,hbs2,hm2,HS2,HJ2⟩ HL2.out⟩
     case measure=>exact (Bun.rel ⟨hx2,hbx2,hlt2,hbs2,hm2,HS2,HJ2⟩ HL2.out).meas HLT.out HK1.out
theorem sol_seq (b bx base:Nat) (Im:Nat→Prop) (C:Cst) (vf vp:Value) (P:List Int) (W:World) (h:SR W b Im C vf vp P) (he:Even C) (hx:W.cell? ⟨bx,0,none⟩=some (.pointer (some ⟨b,0,none⟩))) (hbx:bx<W.heap.size) (hnb:¬Mut b vf vp bx) (hbase:base≤W.heap.size) :
  SeqM Tryz.prog 193 #[.pointer (some ⟨bx,0,none⟩)] encS NewS (GivenS Im bx base) (KpS Im bx) (fun xs=>xs.map Prod.snd=sols C P) (fun pre=>pre.map Prod.snd <+: sols C P∧pre≠[]) (Mut b vf vp) W :=
 fun l J Jx W1 hb hJ _ hY h0=>sol1_c b bx base Im C vf vp P W1 (h.below hb) he (((bcell hb).1 _ _ hbx).trans hx) (Nat.lt_of_lt_of_le hbx hb.size) hnb (Nat.le_trans hbase hb.size) l J Jx hJ hY h0
end
section
open Go Go.RowKit Go.Shelf
attribute [local go_sem] over_cell
attribute [local go_sem] Oper.semAt_some
theorem calls_of_marks {P:Program} {f:FuncId} {fn:Func} {c:Code} {args:Array Value} {w:World} {R:Ending→World→Prop}
  (hf:P.funcs[f]?=some fn) (hb:fn.body=some c)
  (h:c.wp P (bodyPostM Fence.wide 0 P fn R) { tmps:=args++Array.replicate (fn.ntmps - args.size) undef,defers:=[] } w):Calls P f args w R :=
 (callsIn_wide (n:=0)).1 (callsIn_of_wp_marks hf hb trivial (wpIn_wide.2 h) rfl)
theorem marks_none {P:Program} {fn:Func} {R:Ending→World→Prop} {a:Act} {w:World} {v:Value}
  (hr:(results fn a.tmps).run P w = .ok v w) (hd:a.defers=[]) (hR:R (.returned v) w):bodyPostM Fence.wide 0 P fn R .ret a w:=by
 show LeavesInM Fence.wide 0 P fn a.tmps R a.defers .returning w
 rw[hd]
 exact ⟨v,hr,hR⟩
theorem marks_one {P:Program} {fn:Func} {R:Ending→World→Prop} {a:Act} {w:World} {D:Nat} {v:Value}
  (hK:w.heap[D]?=some (.deferred (some []))) (hd:a.defers=[{ target := .collected D,args:=#[] }])
  (hr:(results fn a.tmps).run P (w.putObj D (.deferred none)) = .ok v (w.putObj D (.deferred none))) (hR:R (.returned v) (w.putObj D (.deferred none))):bodyPostM Fence.wide 0 P fn R .ret a w:=by
 show LeavesInM Fence.wide 0 P fn a.tmps R a.defers .returning w
 rw[hd]
 exact ⟨by simp,.inl ⟨D,_,rfl,run_takeDeferred hK,v,hr,hR⟩⟩
theorem putD_cell {w:World} {D:Nat} (hK:w.heap[D]?=some (.deferred (some []))) (p:Addr):((w.putObj D (.deferred none)).cell? p)=w.cell? p:=by
 simp only[World.cell?]
 by_cases e:p.block=D
 ·rw[e,World.putObj_heap_same (Array.getElem?_eq_some_iff.1 hK).1,hK]
 ·rw[World.putObj_heap_other e]
theorem putD_below {w0 w:World} {D B:Nat} (hb:Below B w0 w) (hD:B≤D):Below B w0 (w.putObj D (.deferred none)) :=
 ⟨hb.os,hb.tape,hb.output,by simpa using hb.size,fun k hk=>(World.putObj_heap_other (by omega)).trans (hb.block k hk)⟩
theorem keepq {W W1:World} {b:Nat} {o:Obj} (hb:Below W.heap.size W W1) (h:W.heap[b]?=some o):W1.heap[b]?=some o:=(hb.block b (Array.getElem?_eq_some_iff.1 h).1).trans h
theorem q_lt {W:World} {b:Nat} {o:Obj} (h:W.heap[b]?=some o):b<W.heap.size:=(Array.getElem?_eq_some_iff.1 h).1
theorem q_cell {W:World} {b:Nat} {vs:Array Value} {t:TypeId} (h:W.heap[b]?=some (.cells vs t (0,0))) (i:Nat):W.cell? ⟨b,i,none⟩=vs[i]?:=by
 simp[World.cell?,h]
theorem q_free {W:World} {b:Nat} {vs:Array Value} {t:TypeId} (h:W.heap[b]?=some (.cells vs t (0,0))) (i:Nat):W.frozen? ⟨b,i,none⟩=false:=by
 simp[World.frozen?,h]
theorem q_set {W:World} {b i:Nat} {vs:Array Value} {t:TypeId} (h:W.heap[b]?=some (.cells vs t (0,0))) (u:Value):(W.setCell ⟨b,i,none⟩ u).heap[b]?=some (.cells (vs.setIfInBounds i u) t (0,0)):=by
 have hlt:=q_lt h
 have h':W.heap[b] = .cells vs t (0,0):=by simpa [Array.getElem?_eq_getElem hlt] using h
 show (W.heap.modify b _)[b]?=_
 rw[Array.getElem?_eq_getElem (by simpa using hlt),Array.getElem_modify_self,h']
 rfl
theorem q_other {W:World} {b b' i:Nat} {o:Obj} (h:W.heap[b]?=some o) (hb:b≠b') (u:Value):(W.setCell ⟨b',i,none⟩ u).heap[b]?=some o :=
 (Below.heap_setCell _ _ _ _ hb).trans h
theorem StaysL.mono {L:Nat} {M M':Nat→Prop} {w w':World} (h:StaysL L M w w') (hm:∀k,M k→M' k):StaysL L M' w w' :=
 ⟨h.os,h.tape,h.output,h.size,fun k o ho hk=>h.block k o ho (fun e=>hk (hm k e))⟩
theorem StableL.round {β:Type} {L:Nat} {J:β→(Nat→Prop)→World→Prop} (h:StableL L J) {s:β} {M:Nat→Prop} {W0 W:World} (hj:J s M W0) (hs:StaysL L (fun _=>False) W0 W):J s M W :=
 h s M M W0 W hj (hs.mono (fun _ e=>e.elim)) (fun _ e => .inl e)
theorem stable_and {β:Type} {L:Nat} {I J:β→(Nat→Prop)→World→Prop} (h:StableL L I) (k:StableL L J):StableL L (fun s M W=>I s M W∧J s M W) :=
 fun s M M' W W' hj hs hm=>⟨h s M M' W W' hj.1 hs hm,k s M M' W W' hj.2 hs hm⟩
theorem stable_pure {β:Type} {L:Nat} (p:β→Prop):StableL L (fun s _ _=>p s):=fun _ _ _ _ _ h _ _=>h
theorem stable_ex {β γ:Type} {L:Nat} {I:γ→β→(Nat→Prop)→World→Prop} (h:∀x,StableL L (I x)):StableL L (fun s M W=>∃x,I x s M W) :=
 fun s M M' W W' ⟨x,hj⟩ hs hm=>⟨x,h x s M M' W W' hj hs hm⟩
def BoxI (W:World) (M:Nat→Prop) (b:Nat) (vs:Array Value) (t:TypeId):Prop:=W.heap[b]?=some (.cells vs t (0,0))∧¬M b
theorem stable_box {β:Type} {L:Nat} (b:Nat) (f:β→Array Value) (t:TypeId):StableL L (fun s M W=>BoxI W M b (f s) t) :=
 fun _ _ _ _ _ ⟨h,hm⟩ hs hn=>⟨hs.at h hm,fun e=>(hn b e).elim hm (fun h2=>by have:=q_lt h;omega)⟩
theorem stable_size {β:Type} {L n:Nat}:StableL L (fun (_:β) _ W=>n≤W.heap.size):=fun _ _ _ _ _ h hs _=>Nat.le_trans h hs.size
def OldI (B:Nat) (w0 W:World) (M:Nat→Prop):Prop:=Below B w0 W∧∀k,M k→B≤k
theorem stable_old {β:Type} {L B:Nat} {w0:World} (hL:B≤L) (h0:B≤w0.heap.size):StableL L (fun (_:β) M W=>OldI B w0 W M) :=
 fun _ _ _ _ _ ⟨h,hm⟩ hs hn=>⟨hs.below h hL h0 hm,fun k e=>(hn k e).elim (hm k) (fun h2=>by have:=h.size;omega)⟩
def plC (ls:List (List Int)) (sum:Int) (g:List Int):Cst:=⟨0,none,0,0,ls,sum,none,0,0,g,none,0,0,0⟩
theorem backP_pl (C:Cst):∀R,backP C R=backP (plC C.ls C.sum C.g) R
 | []=>rfl
 | x :: R=>by
  have ih:=backP_pl C R
  unfold backP
  rw[ih]
  rfl
theorem nextP_pl (C:Cst) (P:List Int):nextP C P=nextP (plC C.ls C.sum C.g) P:=by
 unfold nextP
 rw[backP_pl]
 rfl
theorem visit_pl (C:Cst):∀k P,visit C k P=visit (plC C.ls C.sum C.g) k P
 | 0,_=>rfl
 | k+1,P=>by
  simp only[visit]
  rw[nextP_pl]
  cases nextP (plC C.ls C.sum C.g) P with
  | none=>rfl
  | some P' =>
   simp only
   rw[visit_pl C k P']
   rfl
def solsL (ls:List (List Int)) (sum:Int) (g:List Int) (P:List Int):List (List Int):=sols (plC ls sum g) P
theorem sols_pl (C:Cst) (P:List Int):sols C P=solsL C.ls C.sum C.g P:=by
 unfold solsL sols found
 rw[visit_pl]
 rfl
theorem old_lines {w0 w:World} {a:Option Addr} {n:Nat} {ls:List (List Int)} (h:RC w0 a n ls) (hb:Below w0.heap.size w0 w):Sure (fun k=>k<w0.heap.size) w (fun w'=>∀i,i<n→∃a9 n9 c9,lineV w a i = .slice a9 n9 c9∧IC w' a9 n9 (ls[i]?.getD [])∧n9≤c9):=by
 intro w' hs hk i hi
 have h1:=h.sure w' (Nat.le_trans hb.size hs) (fun k hlt=>(hk k hlt).trans (hb.block k hlt))
 obtain ⟨bl,off,a9,n9,c9,e,hl,hc,hic,hn⟩:=h1.2 i hi
 obtain ⟨bl2,off2,_,_,_,e2,hl2,_⟩:=h.2 i hi
 refine ⟨a9,n9,c9,?_,hic,hn⟩
 rw[lineV_keep h hb i hi]
 rw[e] at e2
 simp only[Option.some.injEq,Addr.mk.injEq,and_true] at e2
 obtain ⟨rfl,rfl⟩:=e2
 subst e
 simp only[lineV]
 have h3:w'.cell? ⟨bl,off+i,none⟩=w0.cell? ⟨bl,off+i,none⟩:=World.cell?_of_block ((hk bl hl2).trans (hb.block bl hl2))
 rw[← h3,hc]
 rfl
theorem mut0 {b bx:Nat} {vf:Value} (h1:bx≠b) (h2:vf.ownBlock≠some bx):¬Mut b vf (.slice none 0 0) bx:=by
 rintro (e|e|e)
 ·exact h1 e
 ·exact h2 e
 ·cases e
theorem mut0_ge {b B:Nat} {vf:Value} (h1:B≤b) (h2:∀k,vf.ownBlock=some k→B≤k):∀k,Mut b vf (.slice none 0 0) k→B≤k:=by
 rintro k (e|e|e)
 ·omega
 ·exact h2 k e
 ·cases e
theorem wp_range_sol {g:Operand} {p:Tmp} {assign body:Code} {Q:Exit→Act→World→Prop} {a:Act} {w:World} {b bx:Nat} {Im:Nat→Prop} {C:Cst} {vf vp:Value} {P:List Int}
  (h:SR w b Im C vf vp P) (he:Even C) (hx:w.cell? ⟨bx,0,none⟩=some (.pointer (some ⟨b,0,none⟩))) (hbx:bx<w.heap.size) (hnb:¬Mut b vf vp bx) (hg:a.eval g=solV bx)
  (I:List (Value × List Int)→(Nat→Prop)→World→Prop) (Ix:Code→List (Value × List Int)→(Nat→Prop)→World→Prop) (hI:StableL w.heap.size I) (hIx:∀c,StableL w.heap.size (Ix c)) (h0:I [] (Mut b vf vp) w) (a₁:Value × List Int→Act)
  (hassign:∀(l:Nat) (x:Value × List Int) (W:World) (K:Act→World→Prop),K (a₁ x) W →
   assign.wpIn (Fence.wide.inRound l) 0 Tryz.prog (Exit.then K (fun _ _ _=>False)) { tmps:=a.tmps.setIfInBounds p x.1,defers:=[] } W)
  (hbody:∀(l:Nat) (pre:List (Value × List Int)) (x:Value × List Int) (M:Nat→Prop) (W0 W:World),I pre M W0→StaysL w.heap.size (fun _=>False) W0 W→NewS x W0→GivenS Im bx w.heap.size x M W→body.wpIn (Fence.wide.inRound l) 0 Tryz.prog (ownPostM (KpS Im bx) I Ix (pre++[x]) M W) (a₁ x) W)
  (hdone:∀(D:Nat) (xs:List (Value × List Int)) (M:Nat→Prop) (W:World),w.heap.size≤D→xs.map Prod.snd=solsL C.ls C.sum C.g P→I xs M W→W.heap[D]?=some (.deferred (some []))→Q .normal { a with defers:={ target := .collected D,args:=#[] } :: a.defers } W)
  (hstop:∀(D:Nat) (c:Code) (pre:List (Value × List Int)) (M:Nat→Prop) (W:World),w.heap.size≤D→pre.map Prod.snd <+: solsL C.ls C.sum C.g P→pre≠[]→Ix c pre M W→W.heap[D]?=some (.deferred (some []))→c.wp Tryz.prog Q { a with defers:={ target := .collected D,args:=#[] } :: a.defers } W) :
  (Code.rangeFunc g #[p] assign body).wp Tryz.prog Q a w:=by
 refine wp_rangeFunc_M (gf:=193) (lb:=#[.pointer (some ⟨bx,0,none⟩)]) hg (enters_of Tryz.func193 (by kernel_rfl) rfl)
  (sol_seq b bx w.heap.size Im C vf vp P w h he hx hbx hnb (Nat.le_refl _)) (fun k hk=>h.mutLt hk) (fun x M W l o o' hG _ _ hl ho=>hG.putObj hl ho) (fun h k=>h.trans k)
  (fun M W l o o' hl hm _ _=>KpS.putObj o' h.imLt hbx hl hm) (fun _=>rfl) I Ix hI hIx h0 a₁ (fun l x W K hK=>by
   have e:(#[p].zip (encS x)).foldl (fun t (p,v)=>t.setIfInBounds p v) a.tmps=a.tmps.setIfInBounds p x.1:=by simp[encS]
   rw[e];exact hassign l x W K hK) hbody (fun D xs M W hD hS=>hdone D xs M W hD (by rw[hS,sols_pl])) (fun D c pre M W hD hS=>hstop D c pre M W hD (by rw[← sols_pl];exact hS.1) hS.2)
end
section
open Go Go.RowKit
attribute [local go_sem] over_cell
attribute [local go_sem] Oper.semAt_some
def countE (cells:Int) (ls:List (List Int)) (sum:Int) (g:List Int):Int :=
 if (smallErr cells ls sum g != 0)=true then smallErr cells ls sum g else if 999999999<(solsL ls sum g []).length then 5 else 0
def countN (cells:Int) (ls:List (List Int)) (sum:Int) (g:List Int):Int :=
 if (smallErr cells ls sum g != 0)=true then 0 else if 999999999<(solsL ls sum g []).length then 0 else ((solsL ls sum g []).length:Int)
def CntI (w:World) (b1 b2 b3:Nat) (pre:List (Value × List Int)) (M:Nat→Prop) (W:World):Prop :=
 OldI w.heap.size w W M∧BoxI W M b1 #[.int .i64 0] 3∧BoxI W M b2 #[.int .i64 0] 34∧BoxI W M b3 #[.int .i64 pre.length] 3∧(pre.length:Int)≤999999999
theorem cntI_stable {w:World} {L b1 b2 b3:Nat} (hL:w.heap.size≤L):StableL L (CntI w b1 b2 b3) :=
 stable_and (stable_old hL (Nat.le_refl _)) (stable_and (stable_box _ _ _) (stable_and (stable_box _ _ _) (stable_and (stable_box _ (fun (pre:List (Value × List Int))=>#[.int .i64 pre.length]) _) (stable_pure _))))
def CntX (w:World) (b1 b2:Nat) (c:Code) (pre:List (Value × List Int)) (M:Nat→Prop) (W:World):Prop :=
 c = .ret∧OldI w.heap.size w W M∧BoxI W M b1 #[.int .i64 0] 3∧BoxI W M b2 #[.int .i64 5] 34∧(999999999:Int)<pre.length
theorem cntX_stable {w:World} {L b1 b2:Nat} (hL:w.heap.size≤L) (c:Code):StableL L (CntX w b1 b2 c) :=
 stable_and (stable_pure _) (stable_and (stable_old hL (Nat.le_refl _)) (stable_and (stable_box _ _ _) (stable_and (stable_box _ _ _) (stable_pure _))))
theorem count_c (a:Option Addr) (n c:Nat) (ls:List (List Int)) (cells sum:Int) (a':Option Addr) (n' c':Nat) (g:List Int) (w:World) (h:RC w a n ls) (hcap:n≤c) (h':IC w a' n' g) (hcap':n'≤c') :
  Calls Tryz.prog 14 #[.agg #[.int .i64 cells,.slice a n c,.int .i64 sum,.slice a' n' c']] w fun e w'=>e = .returned (.tuple #[.int .i64 (countN cells ls sum g),.int .i64 (countE cells ls sum g)])∧Below w.heap.size w w':=by
 have hE:Hid (countE cells ls sum g=if (smallErr cells ls sum g != 0)=true then smallErr cells ls sum g else if 999999999<(solsL ls sum g []).length then 5 else 0):=rfl
 have hN:Hid (countN cells ls sum g=if (smallErr cells ls sum g != 0)=true then 0 else if 999999999<(solsL ls sum g []).length then 0 else ((solsL ls sum g []).length:Int)):=rfl
 refine calls_of_marks Tryz.func14 rfl ?_
 simp only[Tryz.ntmps14,List.size_toArray,List.length_cons,List.length_nil,Nat.reduceAdd,Nat.reduceSub,Array.replicate_succ,Array.replicate_zero,List.push_toArray,List.append_toArray,List.nil_append,List.cons_append]
 go_wp2_with fail
 have fsz:(((w.alloc (.cells #[.int .i64 cells,.slice a n c,.int .i64 sum,.slice a' n' c'] 27)).alloc (.cells #[.int .i64 0] 3)).alloc (.cells #[.int .i64 0] 34)).heap.size=w.heap.size+3:=by simp only[World.size_alloc] <;> omega
 have fB:Below w.heap.size w (((w.alloc (.cells #[.int .i64 cells,.slice a n c,.int .i64 sum,.slice a' n' c'] 27)).alloc (.cells #[.int .i64 0] 3)).alloc (.cells #[.int .i64 0] 34)):=(((Below.refl _ _).alloc (Nat.le_refl _) _).alloc (by simp only[World.size_alloc];omega) _).alloc (by simp only[World.size_alloc];omega) _
 have fq0:(((w.alloc (.cells #[.int .i64 cells,.slice a n c,.int .i64 sum,.slice a' n' c'] 27)).alloc (.cells #[.int .i64 0] 3)).alloc (.cells #[.int .i64 0] 34)).heap[w.heap.size]?=some (.cells #[.int .i64 cells,.slice a n c,.int .i64 sum,.slice a' n' c'] 27 (0,0)):=by have h:=World.alloc_heap_new w (.cells #[.int .i64 cells,.slice a n c,.int .i64 sum,.slice a' n' c'] 27);exact (Below.heap_alloc _ _ _ (by simp only[World.size_alloc];omega)).trans ((Below.heap_alloc _ _ _ (by simp only[World.size_alloc];omega)).trans (h))
 have fq1:(((w.alloc (.cells #[.int .i64 cells,.slice a n c,.int .i64 sum,.slice a' n' c'] 27)).alloc (.cells #[.int .i64 0] 3)).alloc (.cells #[.int .i64 0] 34)).heap[w.heap.size+1]?=some (.cells #[.int .i64 0] 3 (0,0)):=by have h:=World.alloc_heap_new (w.alloc (.cells #[.int .i64 cells,.slice a n c,.int .i64 sum,.slice a' n' c'] 27)) (.cells #[.int .i64 0] 3);simp only[World.size_alloc] at h;exact (Below.heap_alloc _ _ _ (by simp only[World.size_alloc];omega)).trans (h)
 have fq2:(((w.alloc (.cells #[.int .i64 cells,.slice a n c,.int .i64 sum,.slice a' n' c'] 27)).alloc (.cells #[.int .i64 0] 3)).alloc (.cells #[.int .i64 0] 34)).heap[w.heap.size+1+1]?=some (.cells #[.int .i64 0] 34 (0,0)):=by have h:=World.alloc_heap_new ((w.alloc (.cells #[.int .i64 cells,.slice a n c,.int .i64 sum,.slice a' n' c'] 27)).alloc (.cells #[.int .i64 0] 3)) (.cells #[.int .i64 0] 34);simp only[World.size_alloc] at h;exact h
 generalize (((w.alloc (.cells #[.int .i64 cells,.slice a n c,.int .i64 sum,.slice a' n' c'] 27)).alloc (.cells #[.int .i64 0] 3)).alloc (.cells #[.int .i64 0] 34))=W0 at fsz fB fq0 fq1 fq2 ⊢
 have H:=Lib.hid h
 have H':=Lib.hid h'
 have HS:=Lib.hid (small_c a n c ls cells sum a' n' c' g W0 (h.mono fB) hcap (h'.mono fB) hcap')
 clear h h'
 have HSZ:=Lib.hid fsz
 have fsz':w.heap.size+2<W0.heap.size:=by omega
 clear fsz
 by_cases he:(smallErr cells ls sum g != 0)=true
 ·rw[if_pos he] at hE hN
  have hne:¬smallErr cells ls sum g=0:=by simpa using he
  go_wp2_with (go_at_call 63;refine HS.out.mono ?_;rintro _ w1 ⟨rfl,hb1⟩;have c1:=q_cell (keepq hb1 fq1) 0;have c2:=q_cell (keepq hb1 fq2) 0;have f1:=q_free (keepq hb1 fq1) 0;have f2:=q_free (keepq hb1 fq2) 0)
  have g1:=q_other (q_set (i:=0) (keepq hb1 fq1) (.int .i64 0)) (b':=w.heap.size+1+1) (i:=0) (by omega) (.int .i64 (smallErr cells ls sum g))
  have g2:=q_set (i:=0) (q_other (keepq hb1 fq2) (b':=w.heap.size+1) (i:=0) (by omega) (.int .i64 0)) (.int .i64 (smallErr cells ls sum g))
  have d1:=q_cell g1 0
  have d2:=q_cell g2 0
  refine marks_none (v := .tuple #[.int .i64 0,.int .i64 (smallErr cells ls sum g)]) ?_ rfl ⟨?_,?_⟩
  ·simp[results,Tryz.f14,go_sem,d1,d2]
  ·rw[hE.out,hN.out]
  ·exact (((fB.trans (hb1.mono (by omega))).setCell (p:=⟨w.heap.size+1,0,none⟩) (by simp) _).setCell (p:=⟨w.heap.size+1+1,0,none⟩) (by show w.heap.size≤w.heap.size+1+1;omega) _)
 ·have he0:smallErr cells ls sum g=0:=by simpa using he
  rw[if_neg he] at hE hN
  have hte:taskErr cells ls sum g=0:=by
   unfold smallErr at he0
   by_cases h1:(taskErr cells ls sum g != 0)=true
   ·rw[if_pos h1] at he0;exact he0
   ·simpa using h1
  have G:=Lib.hid (goodTask hte)
  rw[he0] at HS
  clear he he0 hte
  have hl':=H'.out.len
  have hl:=H.out.len
  have hm':n'≤256:=by have:=G.out.len;have:=G.out.cells2;omega
  have hn1:n≤1000000:=by have:=G.out.lines;omega
  go_wp2_with (go_at_call 63;refine HS.out.mono ?_;rintro _ w1 ⟨rfl,hb1⟩;have hA:=(Below.refl w1.heap.size w1).alloc (Nat.le_refl _) (.cells #[.int .i64 0] 3);have x0:=q_cell (keepq hA (keepq hb1 fq0)) 0;have x1:=q_cell (keepq hA (keepq hb1 fq0)) 1;have x2:=q_cell (keepq hA (keepq hb1 fq0)) 2;have x3:=q_cell (keepq hA (keepq hb1 fq0)) 3)
  have hz1:=hb1.size
  have g0:=keepq hA (keepq hb1 fq0)
  have g1:=keepq hA (keepq hb1 fq1)
  have g2:=keepq hA (keepq hb1 fq2)
  have g3:(w1.alloc (.cells #[.int .i64 0] 3)).heap[w1.heap.size]?=some (.cells #[.int .i64 0] 3 (0,0)):=World.alloc_heap_new _ _
  have hBW:Below w.heap.size w (w1.alloc (.cells #[.int .i64 0] 3)):=(fB.trans (hb1.mono (by omega))).alloc (by omega) _
  have hbn:w1.heap.size<(w1.alloc (.cells #[.int .i64 0] 3)).heap.size:=q_lt g3
  clear x0 x1 x2 x3 hA
  generalize (w1.alloc (.cells #[.int .i64 0] 3))=W2 at g0 g1 g2 g3 hBW hbn ⊢
  have hOlt:∀k,k<w.heap.size→k<W2.heap.size:=fun k hk=>by have:=hBW.size;omega
  refine (all_c a n c ls cells sum a' n' c' g W2 (H.out.mono hBW) hcap hn1 (H'.out.mono hBW) hm' (fun k hk=>by have:=G.out.num k (by omega);have:=G.out.cells2;omega) (fun l hl=>by have h1:=G.out.lineLen hl;have h2:=G.out.len;exact ⟨h1.1,fun x hx=>by have:=h1.2 x hx;omega⟩) (fun k=>k<w.heap.size) hOlt (old_lines H.out hBW)).mono ?_
  rintro _ w3 ⟨bx,b,Im,ao,co,al,cl,vf,rfl,hbx1,hbx2,hbx3,hbx4,hbx5,hbx6,hsr,hb3,hb4,hb5,hb6⟩
  have p1:=keepq hb3 g1
  have p2:=keepq hb3 g2
  have p3:=keepq hb3 g3
  go_wp2_with fail
  have hnb:¬Mut b vf (.slice none 0 0) bx:=by
   rintro (e|e|e)
   ·exact hbx3 e
   ·exact hbx4 e
   ·cases e
  have hge:∀k,Mut b vf (.slice none 0 0) k→W2.heap.size≤k:=by
   rintro k (e|e|e)
   ·omega
   ·exact hb5 k e
   ·cases e
  have hgi:∀k,KbS Im bx (Mut b vf (.slice none 0 0)) k→k<w.heap.size∨W2.heap.size≤k:=by
   rintro k (e|e|e)
   ·exact hb6 k e
   ·exact .inr (hge k e)
   ·omega
  have hev:Even ⟨cells,a,n,c,ls,sum,a',n',c',g,ao,co,al,cl⟩:=G.out.even
  have h3:W2.heap.size≤w3.heap.size:=hb3.size
  refine wp_range_sol hsr hev hbx6 hbx2 hnb rfl
   (CntI w (w.heap.size+1) (w.heap.size+1+1) w1.heap.size) (CntX w (w.heap.size+1) (w.heap.size+1+1)) ?hI ?hIx ?h0 ?act ?assign ?body ?done ?stop
  case hI=>exact cntI_stable (by omega)
  case hIx=>exact cntX_stable (by omega)
  case h0 =>
   have hBW3:=hBW.trans (hb3.mono hBW.size)
   exact ⟨⟨hBW3,fun k hk=>by have:=hge k hk;have:=hBW.size;omega⟩,⟨p1,fun e=>by have:=hge _ e;omega⟩,⟨p2,fun e=>by have:=hge _ e;omega⟩,⟨p3,fun e=>by have:=hge _ e;omega⟩,by simp⟩
  case assign =>
   intro l x W K hK
   gi_wp2
   exact hK
  have hle1:w.heap.size≤w1.heap.size:=by omega
  case body =>
   rintro l pre x M W4 W hI0 hst _ _
   obtain ⟨⟨hB,hM⟩,⟨q1,m1⟩,⟨q2,m2⟩,⟨q3,m3⟩,hle⟩:=(cntI_stable (L:=w3.heap.size) (by omega)).round hI0 hst
   have c1:=q_cell q1 0
   have c2:=q_cell q2 0
   have c3:=q_cell q3 0
   have f1:=q_free q1 0
   have f2:=q_free q2 0
   have f3:=q_free q3 0
   by_cases hgt:(999999999:Int)<(pre.length:Int)+1
   ·gi_wp2
    refine ⟨((KeepsOthers.setCell _ _ _).trans (KeepsOthers.setCell _ _ _)).trans (KeepsOthers.setCell _ _ _),((KpS.setCell _ ?_).trans (KpS.setCell _ ?_)).trans (KpS.setCell _ ?_),rfl,⟨((hB.setCell (p:=⟨w1.heap.size,0,none⟩) hle1 _).setCell (p:=⟨w.heap.size+1,0,none⟩) (by simp) _).setCell (p:=⟨w.heap.size+1+1,0,none⟩) (by show w.heap.size≤w.heap.size+1+1;omega) _,hM⟩,⟨?_,m1⟩,⟨?_,m2⟩,by simp;omega⟩
    ·rintro (e|e|e)
     ·rcases hb6 _ e with e2|e2 <;> omega
     ·exact m3 e
     ·omega
    ·rintro (e|e|e)
     ·rcases hb6 _ e with e2|e2 <;> omega
     ·exact m1 e
     ·omega
    ·rintro (e|e|e)
     ·rcases hb6 _ e with e2|e2 <;> omega
     ·exact m2 e
     ·omega
    ·exact q_other (q_set (q_other q1 (by omega) _) _) (by omega) _
    ·exact q_set (q_other (q_other q2 (by omega) _) (by omega) _) _
   ·gi_wp2
    refine ⟨KeepsOthers.setCell _ _ _,KpS.setCell _ ?_,⟨hB.setCell (p:=⟨w1.heap.size,0,none⟩) hle1 _,hM⟩,⟨q_other q1 (by omega) _,m1⟩,⟨q_other q2 (by omega) _,m2⟩,⟨?_,m3⟩,by simp;omega⟩
    ·rintro (e|e|e)
     ·rcases hb6 _ e with e2|e2 <;> omega
     ·exact m3 e
     ·omega
    ·have:=q_set (i:=0) q3 (.int .i64 ((pre.length:Int)+1))
     simpa using this
  case done =>
   rintro D xs M W hD hS ⟨⟨hB,hM⟩,⟨q1,m1⟩,⟨q2,m2⟩,⟨q3,m3⟩,hle⟩ hK
   have c1:=q_cell q1 0
   have c2:=q_cell q2 0
   have c3:=q_cell q3 0
   have f1:=q_free q1 0
   have f2:=q_free q2 0
   have HL:Hid (solsL ls sum g []=xs.map Prod.snd):=hS.symm
   clear hS
   go_wp2
   have r1:=q_other (b':=w.heap.size+1+1) (i:=0) (q_set (i:=0) q1 (.int .i64 xs.length)) (by omega) (.int .i64 0)
   have r2:=q_set (i:=0) (q_other (b':=w.heap.size+1) (i:=0) q2 (by omega) (.int .i64 xs.length)) (.int .i64 0)
   have hK2:=((KeepsOthers.setCell W ⟨w.heap.size+1,0,none⟩ (.int .i64 xs.length)).trans (KeepsOthers.setCell _ ⟨w.heap.size+1+1,0,none⟩ (.int .i64 0))).same D _ hK rfl
   have d1:=(putD_cell hK2 ⟨w.heap.size+1,0,none⟩).trans (q_cell r1 0)
   have d2:=(putD_cell hK2 ⟨w.heap.size+1+1,0,none⟩).trans (q_cell r2 0)
   have hlen:(solsL ls sum g []).length=xs.length:=by rw[HL.out,List.length_map]
   refine marks_one (v := .tuple #[.int .i64 xs.length,.int .i64 0]) hK2 rfl ?_ ⟨?_,?_⟩
   ·simp[results,Tryz.f14,go_sem,d1,d2]
   ·rw[hE.out,hN.out,hlen,if_neg (by omega),if_neg (by omega)]
   ·exact putD_below ((hB.setCell (p:=⟨w.heap.size+1,0,none⟩) (by simp) _).setCell (p:=⟨w.heap.size+1+1,0,none⟩) (by show w.heap.size≤w.heap.size+1+1;omega) _) (by omega)
  case stop =>
   rintro D c pre M W hD hS _ ⟨rfl,⟨hB,hM⟩,⟨q1,m1⟩,⟨q2,m2⟩,hgt⟩ hK
   go_wp2
   have d1:=(putD_cell hK ⟨w.heap.size+1,0,none⟩).trans (q_cell q1 0)
   have d2:=(putD_cell hK ⟨w.heap.size+1+1,0,none⟩).trans (q_cell q2 0)
   have hlen:pre.length≤(solsL ls sum g []).length:=by have:=hS.length_le;simpa using this
   refine marks_one (v := .tuple #[.int .i64 0,.int .i64 5]) hK rfl ?_ ⟨?_,?_⟩
   ·simp[results,Tryz.f14,go_sem,d1,d2]
   ·rw[hE.out,hN.out,if_pos (by omega),if_pos (by omega)]
   ·exact putD_below hB (by omega)
end
end Go.Proofs.YtaadpihbjhachaaGreat
