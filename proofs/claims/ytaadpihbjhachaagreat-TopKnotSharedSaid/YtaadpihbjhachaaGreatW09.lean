/- Texts I2 to I4 of this proof, in one file. -/
import Derived.Test.YtaadpihbjhachaaGreatW08
import Derived.RangeFuncBound
import Derived.Shelf.Abstract
namespace Go.Proofs.YtaadpihbjhachaaGreat
set_option maxRecDepth 100000
set_option maxHeartbeats 16000000
section
open Go Go.RowKit
attribute [local go_sem] over_cell
attribute [local go_sem] Oper.semAt_some
theorem wide_fn (f:FuncId):Fence.wide.fn f:=trivial
theorem wide_depth:Fence.wide.depth=none:=rfl
theorem wide_all {o:Option FuncId}:∀f,o=some f→Fence.wide.fn f:=fun _ _=>trivial
def sols (C:Cst) (P:List Int):List (List Int):=if C.O.length=0 then (if wrongB C P=true then [] else [fillP C P]) else found C P
def KbS (Im:Nat→Prop) (bx:Nat) (M:Nat→Prop) (k:Nat):Prop:=Im k∨M k∨k=bx
def KpS (Im:Nat→Prop) (bx:Nat) (M:Nat→Prop) (A B:World):Prop:=A.heap.size≤B.heap.size∧∀k,k<A.heap.size→KbS Im bx M k→B.heap[k]?=A.heap[k]?
def NewS (x:Value × List Int) (W0:World):Prop:=∀k,x.1.ownBlock=some k→W0.heap.size≤k
def GivenS (Im:Nat→Prop) (bx base:Nat) (x:Value × List Int) (M:Nat→Prop) (W:World):Prop :=
 W.ownsRow base 3 1 x.1 x.2.length (x.2.map (Value.int .i64))∧(∀k,x.1.ownBlock=some k→¬KbS Im bx M k)∧∀k,M k→k<W.heap.size
def encS (x:Value × List Int):Array Value:=#[x.1]
theorem GivenS.putObj {Im:Nat→Prop} {bx base:Nat} {x:Value × List Int} {M:Nat→Prop} {W:World} {l:Nat} {o o':Obj} (h:GivenS Im bx base x M W) (hl:W.heap[l]?=some o) (ho:o.isCells=false):GivenS Im bx base x M (W.putObj l o') :=
 ⟨(StaysL.putObj (L:=l) (fun _=>False) o' (Nat.le_refl _) hl ho).owns h.1 (fun _ _ e=>e),h.2.1,fun k hk=>Nat.lt_of_lt_of_le (h.2.2 k hk) (grownBy_putObj' W l o').size⟩
theorem KpS.trans {Im:Nat→Prop} {bx:Nat} {M:Nat→Prop} {A B C:World} (h:KpS Im bx M A B) (k:KpS Im bx M B C):KpS Im bx M A C :=
 ⟨Nat.le_trans h.1 k.1,fun i hi hk=>(k.2 i (Nat.lt_of_lt_of_le hi h.1) hk).trans (h.2 i hi hk)⟩
theorem KpS.putObj {Im:Nat→Prop} {bx:Nat} {M:Nat→Prop} {W:World} {l n:Nat} (o':Obj) (hI:∀k,Im k→k<n) (hbx:bx<n) (hl:n≤l) (hm:¬M l):KpS Im bx M W (W.putObj l o') :=
 ⟨by simp,fun k _ hk=>World.putObj_heap_other (by
  rintro rfl
  rcases hk with hk|hk|hk
  ·have:=hI _ hk;omega
  ·exact hm hk
  ·omega)⟩
theorem KpS.setCell {Im:Nat→Prop} {bx:Nat} {M:Nat→Prop} {W:World} {b i:Nat} (v:Value) (hb:¬KbS Im bx M b):KpS Im bx M W (W.setCell ⟨b,i,none⟩ v) :=
 ⟨(KeepsOthers.setCell W _ v).size,fun k _ hk=>Below.heap_setCell _ _ _ _ (fun e=>hb (by simp only at e;rw[← e];exact hk))⟩
theorem KpS.refl {Im:Nat→Prop} {bx:Nat} {M:Nat→Prop} (W:World):KpS Im bx M W W:=⟨Nat.le_refl _,fun _ _ _=>rfl⟩
theorem KpS.below {Im:Nat→Prop} {bx:Nat} {M:Nat→Prop} {A B:World} (h:Below A.heap.size A B):KpS Im bx M A B:=⟨h.size,fun k hk _=>h.block k hk⟩
def SolRel (b bx base:Nat) (Im:Nat→Prop) (C:Cst) (vf:Value) (J:List (Value × List Int)→(Nat→Prop)→World→Prop) (L:List (List Int)) (wr:World) (k:Nat):Prop :=
 ∃pre P vp,k=fuelP C P∧SR wr b Im C vf vp P∧wr.cell? ⟨bx,0,none⟩=some (.pointer (some ⟨b,0,none⟩))∧bx<wr.heap.size∧¬Mut b vf vp bx∧base≤wr.heap.size∧J pre (Mut b vf vp) wr∧pre.map Prod.snd++found C P=L
theorem Mut.new {b:Nat} {vf vp vp':Value} {n:Nat} (h:∀k,vp'.ownBlock=some k→vp.ownBlock=some k∨n≤k):∀k,Mut b vf vp' k→Mut b vf vp k∨n≤k:=by
 rintro k (e|e|e)
 ·exact .inl (.inl e)
 ·exact .inl (.inr (.inl e))
 ·exact (h k e).imp (fun e => .inr (.inr e)) id
theorem SR.mutLt {w:World} {b:Nat} {Im:Nat→Prop} {C:Cst} {vf vp:Value} {P:List Int} (h:SR w b Im C vf vp P) {k:Nat} (hk:Mut b vf vp k):k<w.heap.size:=by
 rcases hk with e|e|e
 ·rw[e];exact h.lt
 ·exact (h.f.lt _ e).2
 ·exact (h.p.lt _ e).2
def Bun (b bx base:Nat) (Im:Nat→Prop) (C:Cst) (vf:Value) (J:List (Value × List Int)→(Nat→Prop)→World→Prop) (P:List Int) (pre:List (Value × List Int)) (vp:Value) (w:World):Prop :=
 w.cell? ⟨bx,0,none⟩=some (.pointer (some ⟨b,0,none⟩))∧bx<w.heap.size∧b<w.heap.size∧base≤w.heap.size∧¬Mut b vf vp bx∧Hid (SR w b Im C vf vp P)∧Hid (J pre (Mut b vf vp) w)
theorem Bun.below {b bx base:Nat} {Im:Nat→Prop} {C:Cst} {vf:Value} {J:List (Value × List Int)→(Nat→Prop)→World→Prop} {P:List Int} {pre:List (Value × List Int)} {vp:Value} {w w':World} (hJ:StableM J)
  (h:Bun b bx base Im C vf J P pre vp w) (hb:Below w.heap.size w w'):Bun b bx base Im C vf J P pre vp w':=by
 obtain ⟨h1,h2,h3,h4,h5,h6,h7⟩:=h
 have hs:=hb.size
 exact ⟨((bcell hb).1 _ _ h2).trans h1,by omega,by omega,by omega,h5,Lib.hid (h6.out.below hb),Lib.hid (hJ _ _ _ _ _ h7.out (Below.stays hb _) (fun k e => .inl e))⟩
theorem Bun.rel {b bx base:Nat} {Im:Nat→Prop} {C:Cst} {vf:Value} {J:List (Value × List Int)→(Nat→Prop)→World→Prop} {P:List Int} {pre:List (Value × List Int)} {vp:Value} {w:World} {L:List (List Int)}
  (h:Bun b bx base Im C vf J P pre vp w) (hL:pre.map Prod.snd++found C P=L):SolRel b bx base Im C vf J L w (fuelP C P):=by
 obtain ⟨h1,h2,h3,h4,h5,h6,h7⟩:=h
 exact ⟨pre,P,vp,rfl,h6.out,h1,h2,h5,h4,h7.out,hL⟩
theorem SolRel.meas {b bx base:Nat} {Im:Nat→Prop} {C:Cst} {vf:Value} {J:List (Value × List Int)→(Nat→Prop)→World→Prop} {L:List (List Int)} {w:World} {k m n:Nat}
  (h:SolRel b bx base Im C vf J L w k) (hk:k<m) (hm:n=m):leastOf (SolRel b bx base Im C vf J L w)<n:=by
 rw[hm]
 exact Nat.lt_of_le_of_lt ((leastOf_spec ⟨k,h⟩).2 k h) hk
theorem sol1_c (b bx base:Nat) (Im:Nat→Prop) (C:Cst) (vf vp:Value) (P:List Int) (W:World) (h:SR W b Im C vf vp P) (he:Even C) (hx:W.cell? ⟨bx,0,none⟩=some (.pointer (some ⟨b,0,none⟩))) (hbx:bx<W.heap.size) (hnb:¬Mut b vf vp bx) (hbase:base≤W.heap.size)
  (l:Nat) (J Jx:List (Value × List Int)→(Nat→Prop)→World→Prop) (hJ:StableM J)
  (hY:∀pre x M W0 W1,J pre M W0→Below W0.heap.size W0 W1→NewS x W0→GivenS Im bx base x M W1→YieldAt Fence.wide 0 Tryz.prog l (encS x) W1 fun e W' =>
   (e = .returned (.bool true)∧J (pre++[x]) M W'∧KpS Im bx M W1 W')∨(e = .returned (.bool false)∧Jx (pre++[x]) M W'∧KpS Im bx M W1 W'))
  (h0:J [] (Mut b vf vp) W) :
  Calls Tryz.prog 193 #[.func (.yield l) #[] #[],.pointer (some ⟨bx,0,none⟩)] W fun e W'=>(∃v,e = .returned v) ∧
   ((∃xs M,xs.map Prod.snd=sols C P∧J xs M W')∨(∃pre M,(pre.map Prod.snd <+: sols C P∧pre≠[])∧Jx pre M W')):=by
 have c4:=h.c4
 have hlt:=h.lt
 have H:=Lib.hid h
 have HJ:=Lib.hid hJ
 have HY:=Lib.hid hY
 have H0:=Lib.hid h0
 have HE:=Lib.hid he
 clear h hJ hY h0 he
 by_cases hO:C.O.length=0
 ·have hOb:(((C.O.length:Nat):Int)==0)=true:=by rw[beq_iff_eq];omega
  have HW:=Lib.hid ((wrong_c b Im C vf vp P W H.out).mono (fun e w' hh=>And.intro hh.1 (Bun.below (b:=b) (bx:=bx) (base:=base) (Im:=Im) (C:=C) (vf:=vf) (J:=J) (P:=P) (pre:=[]) (vp:=vp) HJ.out ⟨hx,hbx,hlt,hbase,hnb,H,H0⟩ hh.2)))
  obtain ⟨af,nf,cf,rfl⟩:∃af nf cf,vf = .slice af nf cf:=by
   obtain ⟨a,c,e⟩:=owns_shape H.out.f
   exact ⟨_,_,_,e⟩
  by_cases hw:wrongB C P=true
  ·have HS:Hid (sols C P=[]):=by unfold Hid sols;rw[if_pos hO,if_pos hw]
   rw[hw] at HW
   clear hO hw
   refine (callsIn_wide (n:=0)).1 (callsIn_of_wp Tryz.func193 rfl trivial ?_ rfl)
   simp only[Tryz.ntmps193,List.size_toArray,List.length_cons,List.length_nil,Nat.reduceAdd,Nat.reduceSub,Array.replicate_succ,Array.replicate_zero,List.push_toArray,List.append_toArray,List.nil_append,List.cons_append]
   gi_wp2_with (first|(with_reducible refine ⟨wide_fn _,?_⟩)|(with_reducible refine ⟨wide_depth,?_⟩)|(with_reducible refine ⟨wide_all,?_⟩)|(gi_at_call 133;refine (callsIn_wide.2 HW.out).mono ?_;rintro _ w3 ⟨rfl,hx3,hbx3,hlt3,hbs3,hm3,HS3,HJ3⟩;have c10:=HS3.out.c10))
   refine bodyPost_ret (results_none rfl _ _ _) rfl ?_
   exact ⟨⟨_,rfl⟩,.inl ⟨[],_,by rw[HS.out];rfl,HJ3.out⟩⟩
  ·have HS:Hid (sols C P=[fillP C P]):=by unfold Hid sols;rw[if_pos hO,if_neg hw]
   have hw':wrongB C P=false:=by simpa using hw
   have HC:=Lib.hid (fun w3 vp2 (hb:Bun b bx base Im C (.slice af nf cf) J P [] vp2 w3)=>(clone_c af nf cf (fillP C P) w3 hb.2.2.2.2.2.1.out.ic.1).mono (fun e w' h=>show ∃v,e = .returned v∧YieldAt Fence.wide 0 Tryz.prog l #[v] w' (fun e W'=>(e = .returned (.bool true)∧Hid (∃xs M,xs.map Prod.snd=[fillP C P]∧J xs M W'))∨(e = .returned (.bool false)∧Hid (∃pre' M,(pre'.map Prod.snd <+: [fillP C P]∧pre'≠[])∧Jx pre' M W'))) from by
    obtain ⟨v,he,hown,hbl⟩:=h
    refine ⟨v,he,?_⟩
    obtain ⟨h1,h2,h3,h4,h5,h6,h7⟩:=hb
    refine YieldAt.mono (HY.out [] (v,fillP C P) _ w3 w' h7.out hbl (fun k e=>(hown.lt k e).1) ⟨owns_up (owns_base hown (Nat.zero_le _)) (fun k e=>by have:=(hown.lt k e).1;omega),fun k e hk=>?_,fun k hk=>Nat.lt_of_lt_of_le (h6.out.mutLt hk) hbl.size⟩) ?_
    ·have hge:=(hown.lt k e).1
     rcases hk with hk|hk|hk
     ·have:=h6.out.imLt k hk;omega
     ·have:=h6.out.mutLt hk;omega
     ·omega
    ·rintro e5 W5 (⟨he5,hJ5,hk5⟩|⟨he5,hJ5,_⟩)
     ·exact .inl ⟨he5,Lib.hid ⟨_,_,rfl,hJ5⟩⟩
     ·exact .inr ⟨he5,Lib.hid ⟨_,_,⟨List.prefix_refl _,by simp⟩,hJ5⟩⟩))
   rw[hw'] at HW
   clear hO hw hw'
   refine (callsIn_wide (n:=0)).1 (callsIn_of_wp Tryz.func193 rfl trivial ?_ rfl)
   simp only[Tryz.ntmps193,List.size_toArray,List.length_cons,List.length_nil,Nat.reduceAdd,Nat.reduceSub,Array.replicate_succ,Array.replicate_zero,List.push_toArray,List.append_toArray,List.nil_append,List.cons_append]
   gi_wp2_with (first|(with_reducible refine ⟨wide_fn _,?_⟩)|(with_reducible refine ⟨wide_depth,?_⟩)|(with_reducible refine ⟨wide_all,?_⟩)|(gi_at_call 133;refine (callsIn_wide.2 HW.out).mono ?_;rintro _ w3 ⟨rfl,hx3,hbx3,hlt3,hbs3,hm3,HS3,HJ3⟩;have c10:=HS3.out.c10)|(gi_at_call 71;refine (callsIn_wide.2 (HC.out _ _ ⟨hx3,hbx3,hlt3,hbs3,hm3,HS3,HJ3⟩)).mono ?_;rintro _ w4 ⟨v4,rfl,fn,tmps,assign,body,hy,hR⟩))
   refine hR.mono ?_
   rintro e5 w5 (⟨rfl,hr5⟩|⟨rfl,hr5⟩)
   ·gi_wp2_with (first|(with_reducible refine ⟨wide_fn _,?_⟩)|(with_reducible refine ⟨wide_depth,?_⟩)|(with_reducible refine ⟨wide_all,?_⟩))
    refine bodyPost_ret (results_none rfl _ _ _) rfl ?_
    obtain ⟨xs,M,h1,h2⟩:=hr5.out
    exact ⟨⟨_,rfl⟩,.inl ⟨xs,M,by rw[HS.out];exact h1,h2⟩⟩
   ·gi_wp2_with (first|(with_reducible refine ⟨wide_fn _,?_⟩)|(with_reducible refine ⟨wide_depth,?_⟩)|(with_reducible refine ⟨wide_all,?_⟩))
    refine bodyPost_ret (results_none rfl _ _ _) rfl ?_
    obtain ⟨pre',M,h1,h2⟩:=hr5.out
    exact ⟨⟨_,rfl⟩,.inr ⟨pre',M,by rw[HS.out];exact h1,h2⟩⟩
 ·have hOb:(((C.O.length:Nat):Int)==0)=false:=by rw[beq_eq_false_iff_ne];omega
  have HS:Hid (sols C P=found C P):=if_neg hO
  have HO:=Lib.hid hO
  clear hO
  refine (callsIn_wide (n:=0)).1 (callsIn_of_wp Tryz.func193 rfl trivial ?_ rfl)
  simp only[Tryz.ntmps193,List.size_toArray,List.length_cons,List.length_nil,Nat.reduceAdd,Nat.reduceSub,Array.replicate_succ,Array.replicate_zero,List.push_toArray,List.append_toArray,List.nil_append,List.cons_append]
  gi_wp2
  gi_loopw [] (fun wr=>∃k,SolRel b bx base Im C vf J (found C P) wr k) (fun wr=>leastOf (SolRel b bx base Im C vf J (found C P) wr))
  case atStart=>exact ⟨_,[],P,vp,rfl,H.out,hx,hbx,hnb,hbase,H0.out,by simp⟩
  case round =>
   have hsp:=(leastOf_spec hrel).1
   have HK:=Lib.hid (rfl:leastOf (SolRel b bx base Im C vf J (found C P) wr)=leastOf (SolRel b bx base Im C vf J (found C P) wr))
   obtain ⟨pre,P1,vp1,hk1,hsr,hx1,hbx1,hnb1,hbase1,hJ1,hfound⟩:=hsp
   clear hrel
   have hlt1:=hsr.lt
   have HFD:=Lib.hid hfound
   have HJ1:=Lib.hid hJ1
   have HK1:=Lib.hid hk1
   clear hfound hJ1 hk1
   have HST:=Lib.hid (found_step HE.out hsr.fine hsr.ok)
   cases hn:nextP C P1 with
   | none =>
    have HN:Hid (Calls Tryz.prog 131 #[.pointer (some ⟨b,0,none⟩)] wr fun e w'=>e = .returned (.bool false)∧Stepped wr w' b Im C vf vp1 []):=by
     have:=next_c b Im C vf vp1 P1 wr hsr HE.out
     rw[hn] at this
     exact this
    have HST2:Hid (found C P1=[]):=by have:=HST.out;rw[hn] at this;exact this
    clear hn HST hsr
    gi_wp2_with (first|(with_reducible refine ⟨wide_fn _,?_⟩)|(with_reducible refine ⟨wide_depth,?_⟩)|(with_reducible refine ⟨wide_all,?_⟩)|(gi_at_call 131;refine (callsIn_wide.2 HN.out).mono ?_;rintro _ w1 ⟨rfl,vp2,hsr2,hst2,hk2⟩))
    go_end0
    refine ⟨⟨_,rfl⟩,.inl ⟨pre,_,?_,HJ.out _ _ _ _ _ HJ1.out hst2 (Mut.new hk2)⟩⟩
    have:=HFD.out
    rw[HST2.out,List.append_nil] at this
    rw[this,HS.out]
   | some P2 =>
    have HN:Hid (Calls Tryz.prog 131 #[.pointer (some ⟨b,0,none⟩)] wr fun e w'=>e = .returned (.bool true)∧∃vp2,Bun b bx base Im C vf J P2 pre vp2 w'):=by
     have:=next_c b Im C vf vp1 P1 wr hsr HE.out
     rw[hn] at this
     refine this.mono ?_
     rintro e w1 ⟨he,vp2,hsr2,hst2,hk2⟩
     have hs:=hst2.size
     exact ⟨he,vp2,(hst2.cell hbx1 hnb1).trans hx1,by omega,hsr2.lt,by omega,fun e=>(Mut.new hk2 bx e).elim hnb1 (fun h=>by omega),Lib.hid hsr2,Lib.hid (HJ.out _ _ _ _ _ HJ1.out hst2 (Mut.new hk2))⟩
    have HST2:Hid (found C P1=(if (P2.length==C.O.length)=true∧wrongB C P2=false then [fillP C P2] else [])++found C P2):=by have:=HST.out;rw[hn] at this;exact this
    have HLT:=Lib.hid (fuelP_lt HE.out hsr.fine hsr.ok hn)
    have HF:=Lib.hid (fun w1 vp2 (hb:Bun b bx base Im C vf J P2 pre vp2 w1)=>(full_c b Im C vf vp2 P2 w1 hb.2.2.2.2.2.1.out).mono (fun e w' h=>And.intro h.1 (hb.below HJ.out h.2)))
    obtain ⟨af,nf,cf,rfl⟩:∃af nf cf,vf = .slice af nf cf:=by
     obtain ⟨a,c,e⟩:=owns_shape hsr.f
     exact ⟨_,_,_,e⟩
    have HC:=Lib.hid (fun w3 vp2 (hb:Bun b bx base Im C (.slice af nf cf) J P2 pre vp2 w3) (hL:∀v,(pre++[(v,fillP C P2)]).map Prod.snd++found C P2=found C P)=>(clone_c af nf cf (fillP C P2) w3 hb.2.2.2.2.2.1.out.ic.1).mono (fun e w' h=>show ∃v,e = .returned v∧YieldAt Fence.wide 0 Tryz.prog l #[v] w' (fun e W'=>(e = .returned (.bool true)∧Hid (SolRel b bx base Im C (.slice af nf cf) J (found C P) W' (fuelP C P2)))∨(e = .returned (.bool false)∧Hid (∃pre' M,(pre'.map Prod.snd <+: found C P∧pre'≠[])∧Jx pre' M W'))) from by
     obtain ⟨v,he,hown,hbl⟩:=h
     refine ⟨v,he,?_⟩
     have hb4:=hb.below HJ.out hbl
     obtain ⟨h1,h2,h3,h4,h5,h6,h7⟩:=hb
     refine YieldAt.mono (HY.out pre (v,fillP C P2) _ w3 w' h7.out hbl (fun k e=>(hown.lt k e).1) ⟨owns_up (owns_base hown (Nat.zero_le _)) (fun k e=>by have:=(hown.lt k e).1;omega),fun k e hk=>?_,fun k hk=>Nat.lt_of_lt_of_le (h6.out.mutLt hk) hbl.size⟩) ?_
     ·have hge:=(hown.lt k e).1
      rcases hk with hk|hk|hk
      ·have:=h6.out.imLt k hk;omega
      ·have:=h6.out.mutLt hk;omega
      ·omega
     ·rintro e5 W5 (⟨he5,hJ5,hk5⟩|⟨he5,hJ5,_⟩)
      ·refine .inl ⟨he5,Lib.hid ?_⟩
       obtain ⟨g1,g2,g3,g4,g5,g6,g7⟩:=hb4
       exact ⟨_,P2,vp2,rfl,g6.out.keep hk5.1 (fun k hlt hk=>hk5.2 k hlt (hk.imp id .inl)),(World.cell?_of_block (hk5.2 bx g2 (.inr (.inr rfl)))).trans g1,Nat.lt_of_lt_of_le g2 hk5.1,g5,Nat.le_trans g4 hk5.1,hJ5,hL v⟩
      ·refine .inr ⟨he5,Lib.hid ⟨_,_,⟨⟨found C P2,hL v⟩,by simp⟩,hJ5⟩⟩))
    have HW:=Lib.hid (fun w1 vp2 (hb:Bun b bx base Im C (.slice af nf cf) J P2 pre vp2 w1)=>(wrong_c b Im C (.slice af nf cf) vp2 P2 w1 hb.2.2.2.2.2.1.out).mono (fun e w' h=>And.intro h.1 (hb.below HJ.out h.2)))
    clear hn HST hsr HJ1
    by_cases hf:(P2.length==C.O.length)=true
    ·by_cases hw:wrongB C P2=true
     ·have HL2:Hid (pre.map Prod.snd++found C P2=found C P):=by
       have h1:=HST2.out
       rw[if_neg (fun e=>by rw[hw] at e;exact absurd e.2 (by decide)),List.nil_append] at h1
       exact h1▸HFD.out
      rw[hf] at HF
      rw[hw] at HW
      clear hf hw HC
      gi_wp2_with (first|(with_reducible refine ⟨wide_fn _,?_⟩)|(with_reducible refine ⟨wide_depth,?_⟩)|(with_reducible refine ⟨wide_all,?_⟩)|(gi_at_call 131;refine (callsIn_wide.2 HN.out).mono ?_;rintro _ w1 ⟨rfl,vp2,hx1,hbx1,hlt1,hbs1,hm1,HS1,HJ1⟩)|(gi_at_call 132;refine (callsIn_wide.2 (HF.out _ _ ⟨hx1,hbx1,hlt1,hbs1,hm1,HS1,HJ1⟩)).mono ?_;rintro _ w2 ⟨rfl,hx2,hbx2,hlt2,hbs2,hm2,HS2,HJ2⟩)|(gi_at_call 133;refine (callsIn_wide.2 (HW.out _ _ ⟨hx2,hbx2,hlt2,hbs2,hm2,HS2,HJ2⟩)).mono ?_;rintro _ w3 ⟨rfl,hx3,hbx3,hlt3,hbs3,hm3,HS3,HJ3⟩;have c10:=HS3.out.c10))
      go_roundw
      case rel=>exact ⟨_,Bun.rel ⟨hx3,hbx3,hlt3,hbs3,hm3,HS3,HJ3⟩ HL2.out⟩
      case measure=>exact (Bun.rel ⟨hx3,hbx3,hlt3,hbs3,hm3,HS3,HJ3⟩ HL2.out).meas HLT.out HK1.out
     ·have hw':wrongB C P2=false:=by simpa using hw
      have HL2:Hid (∀v,(pre++[(v,fillP C P2)]).map Prod.snd++found C P2=found C P):=fun v=>by
       have h1:=HST2.out
       rw[if_pos ⟨hf,hw'⟩] at h1
       have h2:=h1▸HFD.out
       simpa using h2
      have HC2:=Lib.hid (fun w3 vp2 (hb:Bun b bx base Im C (.slice af nf cf) J P2 pre vp2 w3)=>HC.out w3 vp2 hb HL2.out)
      rw[hf] at HF
      rw[hw'] at HW
      clear hf hw hw' HC
      gi_wp2_with (first|(with_reducible refine ⟨wide_fn _,?_⟩)|(with_reducible refine ⟨wide_depth,?_⟩)|(with_reducible refine ⟨wide_all,?_⟩)|(gi_at_call 131;refine (callsIn_wide.2 HN.out).mono ?_;rintro _ w1 ⟨rfl,vp2,hx1,hbx1,hlt1,hbs1,hm1,HS1,HJ1⟩)|(gi_at_call 132;refine (callsIn_wide.2 (HF.out _ _ ⟨hx1,hbx1,hlt1,hbs1,hm1,HS1,HJ1⟩)).mono ?_;rintro _ w2 ⟨rfl,hx2,hbx2,hlt2,hbs2,hm2,HS2,HJ2⟩)|(gi_at_call 133;refine (callsIn_wide.2 (HW.out _ _ ⟨hx2,hbx2,hlt2,hbs2,hm2,HS2,HJ2⟩)).mono ?_;rintro _ w3 ⟨rfl,hx3,hbx3,hlt3,hbs3,hm3,HS3,HJ3⟩;have c10:=HS3.out.c10)|(gi_at_call 71;refine (callsIn_wide.2 (HC2.out _ _ ⟨hx3,hbx3,hlt3,hbs3,hm3,HS3,HJ3⟩)).mono ?_;rintro _ w4 ⟨v4,rfl,fn,tmps,assign,body,hy,hR⟩))
      refine hR.mono ?_
      rintro e5 w5 (⟨rfl,hr5⟩|⟨rfl,hr5⟩)
      ·gi_wp2_with (first|(with_reducible refine ⟨wide_fn _,?_⟩)|(with_reducible refine ⟨wide_depth,?_⟩)|(with_reducible refine ⟨wide_all,?_⟩))
       go_roundw
       case rel=>exact ⟨_,hr5.out⟩
       case measure=>exact hr5.out.meas HLT.out HK1.out
      ·gi_wp2_with (first|(with_reducible refine ⟨wide_fn _,?_⟩)|(with_reducible refine ⟨wide_depth,?_⟩)|(with_reducible refine ⟨wide_all,?_⟩))
       refine bodyPost_ret (results_none rfl _ _ _) rfl ?_
       obtain ⟨pre',M,h1,h2⟩:=hr5.out
       exact ⟨⟨_,rfl⟩,.inr ⟨pre',M,by rw[HS.out];exact h1,h2⟩⟩
    ·have hf':(P2.length==C.O.length)=false:=by simpa using hf
     have HL2:Hid (pre.map Prod.snd++found C P2=found C P):=by
      have h1:=HST2.out
      rw[if_neg (fun e=>by rw[hf'] at e;exact absurd e.1 (by decide)),List.nil_append] at h1
      exact h1▸HFD.out
     rw[hf'] at HF
     clear hf hf' HC HW
     gi_wp2_with (first|(with_reducible refine ⟨wide_fn _,?_⟩)|(with_reducible refine ⟨wide_depth,?_⟩)|(with_reducible refine ⟨wide_all,?_⟩)|(gi_at_call 131;refine (callsIn_wide.2 HN.out).mono ?_;rintro _ w1 ⟨rfl,vp2,hx1,hbx1,hlt1,hbs1,hm1,HS1,HJ1⟩)|(gi_at_call 132;refine (callsIn_wide.2 (HF.out _ _ ⟨hx1,hbx1,hlt1,hbs1,hm1,HS1,HJ1⟩)).mono ?_;rintro _ w2 ⟨rfl,hx2,hbx2,hlt2,hbs2,hm2,HS2,HJ2⟩))
     go_roundw
     case rel=>exact ⟨_,Bun.rel ⟨hx2,hbx2,hlt2,hbs2,hm2,HS2,HJ2⟩ HL2.out⟩
     case measure=>exact (Bun.rel ⟨hx2,hbx2,hlt2,hbs2,hm2,HS2,HJ2⟩ HL2.out).meas HLT.out HK1.out
theorem sol_seq (b bx base:Nat) (Im:Nat→Prop) (C:Cst) (vf vp:Value) (P:List Int) (W:World) (h:SR W b Im C vf vp P) (he:Even C) (hx:W.cell? ⟨bx,0,none⟩=some (.pointer (some ⟨b,0,none⟩))) (hbx:bx<W.heap.size) (hnb:¬Mut b vf vp bx) (hbase:base≤W.heap.size) :
  SeqM Tryz.prog 193 #[.pointer (some ⟨bx,0,none⟩)] encS NewS (GivenS Im bx base) (KpS Im bx) (fun xs=>xs.map Prod.snd=sols C P) (fun pre=>pre.map Prod.snd <+: sols C P∧pre≠[]) (Mut b vf vp) W :=
 fun l J Jx W1 hb hJ _ hY h0=>sol1_c b bx base Im C vf vp P W1 (h.below hb) he (((bcell hb).1 _ _ hbx).trans hx) (Nat.lt_of_lt_of_le hbx hb.size) hnb (Nat.le_trans hbase hb.size) l J Jx hJ hY h0
end
section
open Go Go.RowKit Go.Shelf
attribute [local go_sem] over_cell
attribute [local go_sem] Oper.semAt_some
theorem calls_of_marks {P:Program} {f:FuncId} {fn:Func} {c:Code} {args:Array Value} {w:World} {R:Ending→World→Prop}
  (hf:P.funcs[f]?=some fn) (hb:fn.body=some c)
  (h:c.wp P (bodyPostM Fence.wide 0 P fn R) { tmps:=args++Array.replicate (fn.ntmps - args.size) undef,defers:=[] } w):Calls P f args w R :=
 (callsIn_wide (n:=0)).1 (callsIn_of_wp_marks hf hb trivial (wpIn_wide.2 h) rfl)
theorem marks_none {P:Program} {fn:Func} {R:Ending→World→Prop} {a:Act} {w:World} {v:Value}
  (hr:(results fn a.tmps).run P w = .ok v w) (hd:a.defers=[]) (hR:R (.returned v) w):bodyPostM Fence.wide 0 P fn R .ret a w:=by
 show LeavesInM Fence.wide 0 P fn a.tmps R a.defers .returning w
 rw[hd]
 exact ⟨v,hr,hR⟩
theorem marks_one {P:Program} {fn:Func} {R:Ending→World→Prop} {a:Act} {w:World} {D:Nat} {v:Value}
  (hK:w.heap[D]?=some (.deferred (some []))) (hd:a.defers=[{ target := .collected D,args:=#[] }])
  (hr:(results fn a.tmps).run P (w.putObj D (.deferred none)) = .ok v (w.putObj D (.deferred none))) (hR:R (.returned v) (w.putObj D (.deferred none))):bodyPostM Fence.wide 0 P fn R .ret a w:=by
 show LeavesInM Fence.wide 0 P fn a.tmps R a.defers .returning w
 rw[hd]
 exact ⟨by simp,.inl ⟨D,_,rfl,run_takeDeferred hK,v,hr,hR⟩⟩
theorem putD_below {w0 w:World} {D B:Nat} (hb:Below B w0 w) (hD:B≤D):Below B w0 (w.putObj D (.deferred none)) :=
 ⟨hb.os,hb.tape,hb.output,by simpa using hb.size,fun k hk=>(World.putObj_heap_other (by omega)).trans (hb.block k hk)⟩
theorem keepq {W W1:World} {b:Nat} {o:Obj} (hb:Below W.heap.size W W1) (h:W.heap[b]?=some o):W1.heap[b]?=some o:=(hb.block b (Array.getElem?_eq_some_iff.1 h).1).trans h
theorem q_lt {W:World} {b:Nat} {o:Obj} (h:W.heap[b]?=some o):b<W.heap.size:=(Array.getElem?_eq_some_iff.1 h).1
theorem q_cell {W:World} {b:Nat} {vs:Array Value} {t:TypeId} (h:W.heap[b]?=some (.cells vs t (0,0))) (i:Nat):W.cell? ⟨b,i,none⟩=vs[i]?:=by
 simp[World.cell?,h]
theorem q_free {W:World} {b:Nat} {vs:Array Value} {t:TypeId} (h:W.heap[b]?=some (.cells vs t (0,0))) (i:Nat):W.frozen? ⟨b,i,none⟩=false:=by
 simp[World.frozen?,h]
theorem q_set {W:World} {b i:Nat} {vs:Array Value} {t:TypeId} (h:W.heap[b]?=some (.cells vs t (0,0))) (u:Value):(W.setCell ⟨b,i,none⟩ u).heap[b]?=some (.cells (vs.setIfInBounds i u) t (0,0)):=by
 have hlt:=q_lt h
 have h':W.heap[b] = .cells vs t (0,0):=by simpa [Array.getElem?_eq_getElem hlt] using h
 show (W.heap.modify b _)[b]?=_
 rw[Array.getElem?_eq_getElem (by simpa using hlt),Array.getElem_modify_self,h']
 rfl
theorem q_other {W:World} {b b' i:Nat} {o:Obj} (h:W.heap[b]?=some o) (hb:b≠b') (u:Value):(W.setCell ⟨b',i,none⟩ u).heap[b]?=some o :=
 (Below.heap_setCell _ _ _ _ hb).trans h
theorem StaysL.mono {L:Nat} {M M':Nat→Prop} {w w':World} (h:StaysL L M w w') (hm:∀k,M k→M' k):StaysL L M' w w' :=
 ⟨h.os,h.tape,h.output,h.size,fun k o ho hk=>h.block k o ho (fun e=>hk (hm k e))⟩
theorem stable_and {β:Type} {L:Nat} {I J:β→(Nat→Prop)→World→Prop} (h:StableL L I) (k:StableL L J):StableL L (fun s M W=>I s M W∧J s M W) :=
 fun s M M' W W' hj hs hm=>⟨h s M M' W W' hj.1 hs hm,k s M M' W W' hj.2 hs hm⟩
theorem stable_pure {β:Type} {L:Nat} (p:β→Prop):StableL L (fun s _ _=>p s):=fun _ _ _ _ _ h _ _=>h
theorem stable_ex {β γ:Type} {L:Nat} {I:γ→β→(Nat→Prop)→World→Prop} (h:∀x,StableL L (I x)):StableL L (fun s M W=>∃x,I x s M W) :=
 fun s M M' W W' ⟨x,hj⟩ hs hm=>⟨x,h x s M M' W W' hj hs hm⟩
def BoxI (W:World) (M:Nat→Prop) (b:Nat) (vs:Array Value) (t:TypeId):Prop:=W.heap[b]?=some (.cells vs t (0,0))∧¬M b
theorem stable_box {β:Type} {L:Nat} (b:Nat) (f:β→Array Value) (t:TypeId):StableL L (fun s M W=>BoxI W M b (f s) t) :=
 fun _ _ _ _ _ ⟨h,hm⟩ hs hn=>⟨hs.at h hm,fun e=>(hn b e).elim hm (fun h2=>by have:=q_lt h;omega)⟩
theorem stable_size {β:Type} {L n:Nat}:StableL L (fun (_:β) _ W=>n≤W.heap.size):=fun _ _ _ _ _ h hs _=>Nat.le_trans h hs.size
def OldI (B:Nat) (w0 W:World) (M:Nat→Prop):Prop:=Below B w0 W∧∀k,M k→B≤k
theorem stable_old {β:Type} {L B:Nat} {w0:World} (hL:B≤L) (h0:B≤w0.heap.size):StableL L (fun (_:β) M W=>OldI B w0 W M) :=
 fun _ _ _ _ _ ⟨h,hm⟩ hs hn=>⟨hs.below h hL h0 hm,fun k e=>(hn k e).elim (hm k) (fun h2=>by have:=h.size;omega)⟩
def plC (ls:List (List Int)) (sum:Int) (g:List Int):Cst:=⟨0,none,0,0,ls,sum,none,0,0,g,none,0,0,0⟩
theorem backP_pl (C:Cst):∀R,backP C R=backP (plC C.ls C.sum C.g) R
 | []=>rfl
 | x :: R=>by
  have ih:=backP_pl C R
  unfold backP
  rw[ih]
  rfl
theorem nextP_pl (C:Cst) (P:List Int):nextP C P=nextP (plC C.ls C.sum C.g) P:=by
 unfold nextP
 rw[backP_pl]
 rfl
theorem visit_pl (C:Cst):∀k P,visit C k P=visit (plC C.ls C.sum C.g) k P
 | 0,_=>rfl
 | k+1,P=>by
  simp only[visit]
  rw[nextP_pl]
  cases nextP (plC C.ls C.sum C.g) P with
  | none=>rfl
  | some P' =>
   simp only
   rw[visit_pl C k P']
   rfl
def solsL (ls:List (List Int)) (sum:Int) (g:List Int) (P:List Int):List (List Int):=sols (plC ls sum g) P
theorem sols_pl (C:Cst) (P:List Int):sols C P=solsL C.ls C.sum C.g P:=by
 unfold solsL sols found
 rw[visit_pl]
 rfl
theorem old_lines {w0 w:World} {a:Option Addr} {n:Nat} {ls:List (List Int)} (h:RC w0 a n ls) (hb:Below w0.heap.size w0 w):Sure (fun k=>k<w0.heap.size) w (fun w'=>∀i,i<n→∃a9 n9 c9,lineV w a i = .slice a9 n9 c9∧IC w' a9 n9 (ls[i]?.getD [])∧n9≤c9):=by
 intro w' hs hk i hi
 have h1:=h.sure w' (Nat.le_trans hb.size hs) (fun k hlt=>(hk k hlt).trans (hb.block k hlt))
 obtain ⟨bl,off,a9,n9,c9,e,hl,hc,hic,hn⟩:=h1.2 i hi
 obtain ⟨bl2,off2,_,_,_,e2,hl2,_⟩:=h.2 i hi
 refine ⟨a9,n9,c9,?_,hic,hn⟩
 rw[lineV_keep h hb i hi]
 rw[e] at e2
 simp only[Option.some.injEq,Addr.mk.injEq,and_true] at e2
 obtain ⟨rfl,rfl⟩:=e2
 subst e
 simp only[lineV]
 have h3:w'.cell? ⟨bl,off+i,none⟩=w0.cell? ⟨bl,off+i,none⟩:=World.cell?_of_block ((hk bl hl2).trans (hb.block bl hl2))
 rw[← h3,hc]
 rfl
theorem mut0 {b bx:Nat} {vf:Value} (h1:bx≠b) (h2:vf.ownBlock≠some bx):¬Mut b vf (.slice none 0 0) bx:=by
 rintro (e|e|e)
 ·exact h1 e
 ·exact h2 e
 ·cases e
theorem mut0_ge {b B:Nat} {vf:Value} (h1:B≤b) (h2:∀k,vf.ownBlock=some k→B≤k):∀k,Mut b vf (.slice none 0 0) k→B≤k:=by
 rintro k (e|e|e)
 ·omega
 ·exact h2 k e
 ·cases e
theorem wp_range_sol {g:Operand} {p:Tmp} {assign body:Code} {Q:Exit→Act→World→Prop} {a:Act} {w:World} {b bx:Nat} {Im:Nat→Prop} {C:Cst} {vf vp:Value} {P:List Int}
  (h:SR w b Im C vf vp P) (he:Even C) (hx:w.cell? ⟨bx,0,none⟩=some (.pointer (some ⟨b,0,none⟩))) (hbx:bx<w.heap.size) (hnb:¬Mut b vf vp bx) (hg:a.eval g=solV bx)
  (I:List (Value × List Int)→(Nat→Prop)→World→Prop) (Ix:Code→List (Value × List Int)→(Nat→Prop)→World→Prop) (hI:StableL w.heap.size I) (hIx:∀c,StableL w.heap.size (Ix c)) (h0:I [] (Mut b vf vp) w) (a₁:Value × List Int→Act)
  (hassign:∀(l:Nat) (x:Value × List Int) (W:World) (K:Act→World→Prop),K (a₁ x) W →
   assign.wpIn (Fence.wide.inRound l) 0 Tryz.prog (Exit.then K (fun _ _ _=>False)) { tmps:=a.tmps.setIfInBounds p x.1,defers:=[] } W)
  (hbody:∀(l:Nat) (pre:List (Value × List Int)) (x:Value × List Int) (M:Nat→Prop) (W0 W:World),I pre M W0→StaysL w.heap.size (fun _=>False) W0 W→NewS x W0→GivenS Im bx w.heap.size x M W→body.wpIn (Fence.wide.inRound l) 0 Tryz.prog (ownPostM (KpS Im bx) I Ix (pre++[x]) M W) (a₁ x) W)
  (hdone:∀(D:Nat) (xs:List (Value × List Int)) (M:Nat→Prop) (W:World),w.heap.size≤D→xs.map Prod.snd=solsL C.ls C.sum C.g P→I xs M W→W.heap[D]?=some (.deferred (some []))→Q .normal { a with defers:={ target := .collected D,args:=#[] } :: a.defers } W)
  (hstop:∀(D:Nat) (c:Code) (pre:List (Value × List Int)) (M:Nat→Prop) (W:World),w.heap.size≤D→pre.map Prod.snd <+: solsL C.ls C.sum C.g P→pre≠[]→Ix c pre M W→W.heap[D]?=some (.deferred (some []))→c.wp Tryz.prog Q { a with defers:={ target := .collected D,args:=#[] } :: a.defers } W) :
  (Code.rangeFunc g #[p] assign body).wp Tryz.prog Q a w:=by
 refine wp_rangeFunc_M (gf:=193) (lb:=#[.pointer (some ⟨bx,0,none⟩)]) hg (enters_of Tryz.func193 (by kernel_rfl) rfl)
  (sol_seq b bx w.heap.size Im C vf vp P w h he hx hbx hnb (Nat.le_refl _)) (fun k hk=>h.mutLt hk) (fun x M W l o o' hG _ _ hl ho=>hG.putObj hl ho) (fun h k=>h.trans k)
  (fun M W l o o' hl hm _ _=>KpS.putObj o' h.imLt hbx hl hm) (fun _=>rfl) I Ix hI hIx h0 a₁ (fun l x W K hK=>by
   have e:(#[p].zip (encS x)).foldl (fun t (p,v)=>t.setIfInBounds p v) a.tmps=a.tmps.setIfInBounds p x.1:=by simp[encS]
   rw[e];exact hassign l x W K hK) hbody (fun D xs M W hD hS=>hdone D xs M W hD (by rw[hS,sols_pl])) (fun D c pre M W hD hS=>hstop D c pre M W hD (by rw[← sols_pl];exact hS.1) hS.2)
end
section
open Go Go.RowKit
attribute [local go_sem] over_cell
attribute [local go_sem] Oper.semAt_some
end
end Go.Proofs.YtaadpihbjhachaaGreat
