/- Texts C19 to C21b of this proof, in one file. -/
import Derived.Test.YtaadpihbjhachaaGreatW05
namespace Go.Proofs.YtaadpihbjhachaaGreat
set_option maxRecDepth 100000
set_option maxHeartbeats 16000000
section
open Go Go.RowKit
attribute [local go_sem] over_cell
theorem open_le (C:Cst):C.O.length≤C.g.length:=by
 have h1:=List.length_filter_le (fun (i:Nat)=>C.g[i]?.getD 0==0) (List.range C.g.length)
 simpa [Cst.O,openL,openTo] using h1
theorem pop_c (b:Nat) (Im:Nat→Prop) (C:Cst) (vf vp:Value) (P:List Int) (x:Int) (w:World) (h:SR w b Im C vf vp (P++[x])) :
  Calls Tryz.prog 195 #[.pointer (some ⟨b,0,none⟩)] w fun e w'=>e = .returned (.int .i64 x)∧Stepped w w' b Im C vf vp P:=by
 have H:=Lib.hid h
 obtain ⟨hok,hx,hn,hl⟩:=h.ok.pop
 have hxu:=mem_unused.1 hx
 have hm:=h.fine.most
 have hgl:=h.fine.len
 have hpl:(P++[x]).length=P.length+1:=by simp
 have hm3:=mem_open.1 (show C.O[P.length]'hl∈openL C.g from List.getElem_mem hl)
 obtain ⟨o,ho⟩:∃o:Nat,C.O[P.length]'hl=(o:Int):=⟨(C.O[P.length]'hl).toNat,by omega⟩
 have hon:o<C.n':=by omega
 have hfl:(fillP C (P++[x])).length=C.n':=(fillP_len C _).trans hgl
 obtain ⟨bf,cf,x0,hvf,hx0,hcf,hff,hbf,hcap⟩:=owns_free h.f o (by omega)
 obtain ⟨bp,cp,x1,hvp,hx1,hcp,hpf,hbp,hcap2⟩:=owns_free h.p P.length (by omega)
 have hx1':x1 = .int .i64 x:=by
  simp at hx1
  exact hx1.symm
 subst hx1'
 have hF:Hid (fillP C P=(fillP C (P++[x])).set o 0):=by
  unfold Hid
  rw[← fillP_back C P x hl,ho,Int.toNat_natCast]
 have hM:Hid (maskL (leftL C P)=maskL (leftL C (P++[x])) ||| 2 ^ (x.toNat - 1)):=left_pop C P x hx hn
 have hOk:=Lib.hid hok
 have hlt:=h.lt
 have c4:=h.c4
 have c10:=h.c10
 have c11:=h.c11
 have hp:=h.p
 have hf:=h.f
 have hset:=h.set
 have hfz:=h.fz
 rw[hfl] at hvf hf hcap
 rw[hpl] at hvp hp hcap2
 subst hvf
 subst hvp
 have hnf:=h.nf bf rfl
 have hnp:=h.np bp rfl
 have hfp:¬bf=bp:=fun e=>hnp.2.2 (by rw[← e];rfl)
 have hl1:(P.length:Int)<(C.O.length:Int):=by omega
 have hl2:(0:Int)≤(P.length:Int):=by omega
 have ho1:(o:Int)<(C.n':Int):=by omega
 have ho2:(0:Int)≤(o:Int):=by omega
 have hPl:P.length≤256:=by have:=open_le C;omega
 have f11:=hfz 11 (by omega)
 -- the world behind the first store
 obtain ⟨W1,hW1⟩:∃W1,W1=w.setCell ⟨b,11,none⟩ (.slice (some ⟨bp,0,none⟩) P.length cp):=⟨_,rfl⟩
 have hs1:Stays (fun k=>k=b) w W1:=by rw[hW1];exact Stays.setCell (S:=fun k=>k=b) w (p:=⟨b,11,none⟩) rfl _
 have hsz1:W1.heap.size=w.heap.size:=by rw[hW1];simp[World.setCell]
 have hf1:W1.ownsRow 0 3 1 (.slice (some ⟨bf,0,none⟩) C.n' cf) C.n' ((fillP C (P++[x])).map (Value.int .i64)):=owns_keep hf (fun k e hlt=>hs1.block k hlt (by simp only[Value.ownBlock,Option.some.injEq] at e;subst e;exact hnf.2))
 have hp1:W1.ownsRow 0 3 1 (.slice (some ⟨bp,0,none⟩) P.length cp) P.length (P.map (Value.int .i64)):=by
  have:=owns_front (owns_keep hp (fun k e hlt=>hs1.block k hlt (by simp only[Value.ownBlock,Option.some.injEq] at e;subst e;exact hnp.2.1))) P.length (by omega)
  rwa [List.map_append,List.take_left' (by simp)] at this
 have hc1:∀i,i≠11→W1.cell? ⟨b,i,none⟩=w.cell? ⟨b,i,none⟩:=fun i hi=>by
  rw[hW1];exact World.cell?_setCell_other _ _ _ _ (fun e=>by simp only[Addr.mk.injEq,true_and,and_true] at e;exact hi e.symm)
 have d11:W1.cell? ⟨b,11,none⟩=some (.slice (some ⟨bp,0,none⟩) P.length cp):=by rw[hW1];exact World.cell?_setCell_same _ _ _ c11
 have d10:=(hc1 10 (by omega)).trans c10
 have hz1:∀i,W1.frozen? ⟨b,i,none⟩=w.frozen? ⟨b,i,none⟩:=fun i=>by rw[hW1];exact World.frozen?_setCell _ _ _ _
 obtain ⟨bo,off,hao,hbo,dco⟩:=(h.sure.keep hs1.size (fun k e=>hs1.block k (h.imLt k e) (fun e2=>h.nb (e2▸e)))).here.o.2 P.length hl
 rw[List.getElem?_eq_getElem hl,Option.getD_some,ho] at dco
 rw[hao] at c4
 have d4:=(hc1 4 (by omega)).trans c4
 have hb1:b<W1.heap.size:=by omega
 have hbf1:bf<W1.heap.size:=by omega
 -- the world behind the second store
 obtain ⟨W2,hW2⟩:∃W2,W2=(W1.setCell ⟨bf,o,none⟩ (.int .i64 0)).drew:=⟨_,rfl⟩
 have hs2:Stays (fun k=>k=bf) W1 W2:=by rw[hW2];exact (Stays.setCell (S:=fun k=>k=bf) W1 (p:=⟨bf,o,none⟩) rfl _).drew
 have hf2:W2.ownsRow 0 3 1 (.slice (some ⟨bf,0,none⟩) C.n' cf) C.n' (((fillP C (P++[x])).map (Value.int .i64)).set o (.int .i64 0)):=by rw[hW2];exact owns_set hf1 o (.int .i64 0)
 have hp2:W2.ownsRow 0 3 1 (.slice (some ⟨bp,0,none⟩) P.length cp) P.length (P.map (Value.int .i64)):=by
  rw[hW2];exact ownsRow_setCell_other hp1 (a:=⟨bf,o,none⟩) (fun e=>hfp (by simp only[Value.ownBlock,Option.some.injEq] at e;exact e.symm)) (.int .i64 0)
 have hbb:¬b=bf:=fun e=>hnf.2 e.symm
 have hc2:∀i,W2.cell? ⟨b,i,none⟩=W1.cell? ⟨b,i,none⟩:=fun i=>hs2.cell hb1 hbb
 have hz2:∀i,W2.frozen? ⟨b,i,none⟩=w.frozen? ⟨b,i,none⟩:=fun i=>(hs2.frozen hb1 hbb).trans (hz1 i)
 have hset2:SetC W2 b 5 (maskL (leftL C (P++[x]))):=fun q hq=>(hc2 _).trans ((hc1 _ (by omega)).trans (hset q hq))
 have hb2:b<W2.heap.size:=Nat.lt_of_lt_of_le hb1 hs2.size
 have HP:=Lib.hid (sput_c b 5 (maskL (leftL C (P++[x]))) x W2 hset2 hxu.1 (by omega) hb2 (fun q hq=>(hz2 _).trans (hfz _ (by omega))))
 have HW2:=Lib.hid hW2
 have HC2:=Lib.hid hc2
 have HZ2:=Lib.hid hz2
 clear hset hc2 hz2 hW2
 have dcf:W1.cell? ⟨bf,o,none⟩=some x0:=(hs1.cell hbf hnf.2).trans hcf
 have dff:W1.frozen? ⟨bf,o,none⟩=false:=(hs1.frozen hbf hnf.2).trans hff
 have HW1:=Lib.hid hW1
 have HSZ:=Lib.hid hsz1
 have HC1:=Lib.hid hc1
 have HZ1:=Lib.hid hz1
 have HFZ:=Lib.hid hfz
 clear h hW1 hsz1 hc1 hz1 hfz
 go_enter Tryz.func195,Tryz.ntmps195
 go_wp2
 rw[← HW1.out]
 clear HW1 hcf hff c4 c10 c11 hcp hpf
 refine wp_region_S (fun w'=>∃u,w'=over (W1) u) [12] [(0,0),(0,1),(0,2),(0,3),(0,4),(0,5),(0,6),(0,7),(0,8),(0,9),(0,10),(0,11),(2,12)] (by kernel_rfl) (by kernel_rfl) (by exact ⟨_,below_over (by repeat (first|assumption|exact Below.refl _ _|refine keep_drew ?_|refine keep_alloc ?_ _|refine keep_trans ?_ (by assumption)))⟩) ?_
 dsimp only[pickOps,nthOp]
 repeat (first|(refine wpS_skip rfl (fun K hK=>?_);go_big_quiet_op;refine hK _ ?_;clear hK K)|(refine wpS_quiet rfl rfl (fun K hK=>?_);go_big_quiet_op;refine hK _ ?_;clear hK K))
 refine wpS_late _ _ _ rfl ?_
 dsimp only[List.map]
 go_wp2
 refine NoPanic.normal ?_
 rw[← HW2.out]
 clear HW2
 go_wp2_with (go_at_call 146;refine HP.out.mono ?_;rintro _ W3 ⟨rfl,hp3⟩)
 go_ret
 have h:=H.out
 have hsz:=HSZ.out
 have hst2:Stays (fun k=>k=b) W2 W3:=hp3.stays
 have hst:Stays (Mut b (.slice (some ⟨bf,0,none⟩) C.n' cf) (.slice (some ⟨bp,0,none⟩) (P.length+1) cp)) w W3:=((hs1.mono (fun i e => .inl e)).trans hs2 (fun i e => .inl (.inr (.inl (by rw[e];rfl))))).trans hst2 (fun i e => .inl (.inl e))
 have hcell:∀i,i≠11→(i<5∨9≤i)→W3.cell? ⟨b,i,none⟩=w.cell? ⟨b,i,none⟩:=fun i h1 h2=>(hp3.cell i (by omega)).trans ((HC2.out i).trans (HC1.out i h1))
 refine ⟨rfl,.slice (some ⟨bp,0,none⟩) P.length cp,?_,hst,fun k e => .inl e⟩
 have hfo:=hF.out
 refine { fine:=h.fine,ok:=hOk.out,imLt:=fun k e=>Nat.lt_of_lt_of_le (h.imLt k e) hst.size,sure:=h.sure.keep hst.size (fun k e=>hst.block k (h.imLt k e) ?_),lt:=Nat.lt_of_lt_of_le hlt hst.size,nb:=h.nb,nf:=h.nf,np:=h.np,f:=?_,p:=?_,c0:=(hcell 0 (by omega) (by omega)).trans h.c0,c1:=(hcell 1 (by omega) (by omega)).trans h.c1,c2:=(hcell 2 (by omega) (by omega)).trans h.c2,c3:=(hcell 3 (by omega) (by omega)).trans h.c3,c4:=(hcell 4 (by omega) (by omega)).trans h.c4,set:=by rw[hM.out];exact PutW.set hset2 hp3,c9:=(hcell 9 (by omega) (by omega)).trans h.c9,c10:=(hcell 10 (by omega) (by omega)).trans h.c10,c11:=(hp3.cell 11 (by omega)).trans ((HC2.out 11).trans d11),fz:=fun i hi=>(hp3.frozen _).trans ((HZ2.out i).trans (HFZ.out i hi)) }
 ·rintro (e2|e2|e2)
  ·exact h.nb (e2▸e)
  ·exact (h.nf k e2).1 e
  ·exact (h.np k e2).1 e
 ·rw[hfo,List.length_set,hfl]
  refine owns_keep (w:=W2) ?_ (fun k e hlt=>hst2.block k hlt ?_)
  ·rw[List.map_set];exact hf2
  ·simp only[Value.ownBlock,Option.some.injEq] at e
   subst e
   exact fun e=>hbb e.symm
 ·refine owns_keep hp2 (fun k e hlt=>hst2.block k hlt (fun e2=>?_))
  simp only[Value.ownBlock,Option.some.injEq] at e
  exact hnp.2.1 (e.trans e2)
end
section
open Go Go.RowKit
attribute [local go_sem] over_cell
theorem Stepped.refl {w:World} {b:Nat} {Im:Nat→Prop} {C:Cst} {vf vp:Value} {P:List Int} (h:SR w b Im C vf vp P):Stepped w w b Im C vf vp P :=
 ⟨vp,h,Stays.refl _ _,fun _ e => .inl e⟩
theorem Stepped.trans {w w1 w2:World} {b:Nat} {Im:Nat→Prop} {C:Cst} {vf vp vp1:Value} {P:List Int} (hs:Stays (Mut b vf vp) w w1) (hk:∀k,vp1.ownBlock=some k→vp.ownBlock=some k∨w.heap.size≤k) (h2:Stepped w1 w2 b Im C vf vp1 P):Stepped w w2 b Im C vf vp P:=by
 obtain ⟨vp2,hr,hs2,hk2⟩:=h2
 refine ⟨vp2,hr,hs.trans hs2 (fun i e=>?_),fun k e=>?_⟩
 ·rcases e with e|e|e
  ·exact .inl (.inl e)
  ·exact .inl (.inr (.inl e))
  ·exact (hk i e).imp (fun e => .inr (.inr e)) id
 ·rcases hk2 k e with e|e
  ·exact hk k e
  ·exact .inr (Nat.le_trans hs.size e)
theorem Stepped.below {w w1 w2:World} {b:Nat} {Im:Nat→Prop} {C:Cst} {vf vp:Value} {P:List Int} (h:Stepped w w1 b Im C vf vp P) (hb:Below w1.heap.size w1 w2):Stepped w w2 b Im C vf vp P:=by
 obtain ⟨vp1,hr,hs,hk⟩:=h
 exact ⟨vp1,hr.below hb,hs.trans (Below.stays hb (Mut b vf vp)) (fun i e => .inl e),hk⟩
def backP (C:Cst):List Int→Option (List Int)
 | []=>none
 | x :: R=>if 0<aboveM (maskL (leftL C R.reverse)) x.toNat then some (R.reverse++[((aboveM (maskL (leftL C R.reverse)) x.toNat:Nat):Int)]) else backP C R
def nextP (C:Cst) (P:List Int):Option (List Int) :=
 if (P.length==C.O.length)=false∧wrongB C P=false then some (P++[((aboveM (maskL (leftL C P)) 0:Nat):Int)]) else backP C P.reverse
theorem aboveM_spec {M x:Nat} (h:0<aboveM M x):x<aboveM M x∧aboveM M x≤256∧M.testBit (aboveM M x - 1)=true:=by
 unfold aboveM at h ⊢
 cases e:(List.range 257).find? (fun j=>decide (x<j)&&M.testBit (j - 1)) with
 | none=>rw[e] at h;exact absurd h (by simp)
 | some j =>
  have h1:=List.find?_some e
  have h2:=List.mem_of_find?_eq_some e
  simp only[Bool.and_eq_true,decide_eq_true_eq] at h1
  show x<j∧j≤256∧M.testBit (j - 1)=true
  exact ⟨h1.1,by have:=List.mem_range.1 h2;omega,h1.2⟩
theorem above_left {C:Cst} {P:List Int} {x:Nat} (h:0<aboveM (maskL (leftL C P)) x):((aboveM (maskL (leftL C P)) x:Nat):Int)∈unusedL C.g∧((aboveM (maskL (leftL C P)) x:Nat):Int) ∉ P:=by
 have h1:=(aboveM_spec h).2.2
 rw[testBit_maskL,hasB_left,Bool.and_eq_true,Bool.not_eq_true'] at h1
 have e:((aboveM (maskL (leftL C P)) x - 1:Nat):Int)+1=((aboveM (maskL (leftL C P)) x:Nat):Int):=by omega
 rw[e] at h1
 exact ⟨hasB_iff.1 h1.1,fun hm=>by rw[hasB_iff.2 hm] at h1;exact absurd h1.2 (by decide)⟩
theorem nodup_le:∀{l m:List Int},l.Nodup→(∀x,x∈l→x∈m)→l.length≤m.length
 | [],m,_,_=>Nat.zero_le _
 | x :: l,m,hn,hs=>by
  have hx:=hs x List.mem_cons_self
  have hn':=List.nodup_cons.1 hn
  have:=nodup_le (l:=l) (m:=m.erase x) hn'.2 (fun y hy=>by
   rw[List.mem_erase_of_ne (fun e:y=x=>hn'.1 (by rw[← e];exact hy))]
   exact hs y (List.mem_cons_of_mem _ hy))
  rw[List.length_erase_of_mem hx] at this
  have:0<m.length:=List.length_pos_of_mem hx
  simp only[List.length_cons]
  omega
def Even (C:Cst):Prop:=(unusedL C.g).length=C.O.length
theorem above_first {C:Cst} {P:List Int} (he:Even C) (hf:Fine C) (hl:P.length<C.O.length):0<aboveM (maskL (leftL C P)) 0:=by
 rcases Nat.eq_zero_or_pos (aboveM (maskL (leftL C P)) 0) with h0|h0
 ·exfalso
  have hall:∀x,x∈unusedL C.g→x∈P:=by
   intro x hx
   have h3:=mem_unused.1 hx
   have:=hf.len
   have:=hf.most
   apply Classical.byContradiction
   intro hn
   have hb:(maskL (leftL C P)).testBit (x.toNat - 1)=true:=by
    rw[testBit_maskL,hasB_left,show ((x.toNat - 1:Nat):Int)+1=x from by omega,hasB_iff.2 hx]
    simp only[Bool.true_and,Bool.not_eq_true']
    rw[Bool.eq_false_iff]
    exact fun h=>hn (hasB_iff.1 h)
   unfold aboveM at h0
   cases e:(List.range 257).find? (fun j=>decide (0<j)&&(maskL (leftL C P)).testBit (j - 1)) with
   | none =>
    rw[List.find?_eq_none] at e
    have:=e x.toNat (List.mem_range.2 (by omega))
    simp[hb] at this
    omega
   | some j =>
    rw[e] at h0
    have h1:=List.find?_some e
    simp only[Bool.and_eq_true,decide_eq_true_eq] at h1
    have:j=0:=h0
    omega
  have:=nodup_le (unused_nodup C.g) hall
  have:(unusedL C.g).length=C.O.length:=he
  omega
 ·exact h0
theorem next_c (b:Nat) (Im:Nat→Prop) (C:Cst) (vf vp:Value) (P:List Int) (w:World) (h:SR w b Im C vf vp P) (he:Even C) :
  Calls Tryz.prog 131 #[.pointer (some ⟨b,0,none⟩)] w fun e w'=>e = .returned (.bool (nextP C P).isSome)∧Stepped w w' b Im C vf vp ((nextP C P).getD []):=by
 go_enter Tryz.func131,Tryz.ntmps131
 have HF:=Lib.hid (full_c b Im C vf vp P w h)
 have HW:=Lib.hid (fun w1 (hb:Below w.heap.size w w1)=>wrong_c b Im C vf vp P w1 (h.below hb))
 have HA:=Lib.hid (fun w1 (hb:Below w.heap.size w w1)=>above_c b 5 (maskL (leftL C P)) 0 w1 (h.below hb).set (by omega))
 have H:=Lib.hid h
 clear h
 by_cases hfull:(P.length==C.O.length)=true
 ·rw[hfull] at HF
  go_wp2_with (first|(go_at_call 132;refine HF.out.mono ?_;rintro _ w1 ⟨rfl,hb1⟩)|(go_at_call 133;refine (HW.out _ hb1).mono ?_;rintro _ w2 ⟨rfl,hb2⟩))
  have HN:nextP C P=backP C P.reverse:=if_neg (fun e=>by rw[hfull] at e;exact absurd e.1 (by decide))
  have HSX:=(Stepped.refl H.out).below hb1
  obtain ⟨hnb,hS⟩:nextP C P=backP C P.reverse∧Stepped w w1 b Im C vf vp P:=⟨HN,HSX⟩
  go_loopg [] (P.length+1) (fun k wr=>∃R:List Int,k=R.length+1∧backP C R=backP C P.reverse∧Stepped w wr b Im C vf vp R.reverse)
  case atStart=>exact ⟨P.reverse,by simp,rfl,by rw[List.reverse_reverse];exact hS⟩
  case round =>
   obtain ⟨R,rfl,hbk,vp1,hsr,hst,hk⟩:=hrel
   have hlt:=hsr.lt
   have c11:=hsr.c11
   obtain ⟨ap,cp,rfl⟩:=owns_shape hsr.p
   cases R with
   | nil =>
    simp only[List.reverse_nil,List.length_nil] at c11
    have hE:=hnb.trans hbk.symm
    clear hbk hnb
    go_wp2
    go_ret
    rw[show nextP C P=none from hE]
    exact ⟨rfl,_,hsr,hst,hk⟩
   | cons x R =>
    rw[List.reverse_cons] at c11 hsr hk
    have hpl:(R.reverse++[x]).length=R.length+1:=by simp
    rw[hpl] at c11 hk hsr
    have hpop:=hsr.ok.pop
    have hxu:=mem_unused.1 hpop.2.1
    obtain ⟨y,rfl⟩:∃y:Nat,x=(y:Int):=⟨x.toNat,by omega⟩
    have hy:y≤256:=by have:=hsr.fine.len;have:=hsr.fine.most;omega
    have HPOP:=Lib.hid (fun w1 (hb:Below wr.heap.size wr w1)=>pop_c b Im C vf _ R.reverse (y:Int) w1 (hsr.below hb))
    have hE:Hid (backP C ((y:Int) :: R)=if 0<aboveM (maskL (leftL C R.reverse)) y then some (R.reverse++[((aboveM (maskL (leftL C R.reverse)) y:Nat):Int)]) else backP C R):=rfl
    have HBK:=Lib.hid hbk
    have HNB:=Lib.hid hnb
    clear hbk hnb
    go_wp2
    refine wp_region_S (fun _=>True) [6,5] [(0,0),(0,1),(0,2),(0,3),(1,4),(2,5),(2,6)] (by kernel_rfl) (by kernel_rfl) (by trivial) ?_
    dsimp only[pickOps,nthOp]
    repeat (first|(refine wpS_skip rfl (fun K hK=>?_);go_big_quiet_op;refine hK _ ?_;clear hK K)|(refine wpS_quiet rfl rfl (fun K hK=>?_);go_big_quiet_op;refine hK _ ?_;clear hK K)|(refine wpS_loud ?_;go_wp2_with (first|(go_at_call 195;refine (HPOP.out _ (keep_drew (Below.refl _ _))).mono ?_;rintro _ w5 ⟨rfl,vp5,hsr5,hst5,hk5⟩)|(go_at_call 162;refine (above_c b 5 (maskL (leftL C R.reverse)) y w5 hsr5.set hy).mono ?_;rintro _ w6 ⟨rfl,rfl⟩));refine ⟨?_,?_⟩;focus (trivial)))
    refine wpS_late _ _ _ rfl ?_
    dsimp only[List.map]
    go_wp2_with (first|(go_at_call 195;refine (HPOP.out _ (keep_drew (Below.refl _ _))).mono ?_;rintro _ w5 ⟨rfl,vp5,hsr5,hst5,hk5⟩)|(go_at_call 162;refine (above_c b 5 (maskL (leftL C R.reverse)) y w5 hsr5.set hy).mono ?_;rintro _ w6 ⟨rfl,rfl⟩))
    refine NoPanic.normal ?_
    obtain ⟨vp6,hsr6,hst6,hk6⟩:Stepped w w5 b Im C vf vp R.reverse:=Stepped.trans hst.drew hk ⟨vp5,hsr5,hst5,hk5⟩
    clear HPOP hsr5 hst5 hk5 hsr
    by_cases hab:0<aboveM (maskL (leftL C R.reverse)) y
    ·have hal:=above_left hab
     have HPU:=Lib.hid (push_c b Im C vf vp6 R.reverse _ w5 hsr6 hpop.2.2.2 hal.1 hal.2)
     have hab2:(0:Int)<((aboveM (maskL (leftL C R.reverse)) y:Nat):Int):=by omega
     have hEQ:Hid (nextP C P=some (R.reverse++[((aboveM (maskL (leftL C R.reverse)) y:Nat):Int)])):=HNB.out.trans (HBK.out.symm.trans (hE.out.trans (if_pos hab)))
     clear hal
     go_wp2_with (go_at_call 194;refine HPU.out.mono ?_;rintro _ w7 ⟨rfl,hs7⟩)
     go_ret
     rw[hEQ.out]
     exact ⟨rfl,Stepped.trans hst6 hk6 hs7⟩
    ·have hab2:¬(0:Int)<((aboveM (maskL (leftL C R.reverse)) y:Nat):Int):=by omega
     go_wp2
     go_roundg (R.length+1)
     case measure=>simp
     case rel=>exact ⟨R,rfl,(hE.out.trans (if_neg hab)).symm.trans HBK.out,vp6,hsr6,hst6,hk6⟩
 ·have hfull':(P.length==C.O.length)=false:=by simpa using hfull
  rw[hfull'] at HF
  by_cases hw:wrongB C P=true
  ·rw[hw] at HW
   go_wp2_with (first|(go_at_call 132;refine HF.out.mono ?_;rintro _ w1 ⟨rfl,hb1⟩)|(go_at_call 133;refine (HW.out _ hb1).mono ?_;rintro _ w2 ⟨rfl,hb2⟩))
   have HN:nextP C P=backP C P.reverse:=if_neg (fun e=>by rw[hw] at e;exact absurd e.2 (by decide))
   have HSX:=((Stepped.refl H.out).below hb1).below hb2
   obtain ⟨hnb,hS⟩:nextP C P=backP C P.reverse∧Stepped w w2 b Im C vf vp P:=⟨HN,HSX⟩
   go_loopg [] (P.length+1) (fun k wr=>∃R:List Int,k=R.length+1∧backP C R=backP C P.reverse∧Stepped w wr b Im C vf vp R.reverse)
   case atStart=>exact ⟨P.reverse,by simp,rfl,by rw[List.reverse_reverse];exact hS⟩
   case round =>
    obtain ⟨R,rfl,hbk,vp1,hsr,hst,hk⟩:=hrel
    have hlt:=hsr.lt
    have c11:=hsr.c11
    obtain ⟨ap,cp,rfl⟩:=owns_shape hsr.p
    cases R with
    | nil =>
     simp only[List.reverse_nil,List.length_nil] at c11
     have hE:=hnb.trans hbk.symm
     clear hbk hnb
     go_wp2
     go_ret
     rw[show nextP C P=none from hE]
     exact ⟨rfl,_,hsr,hst,hk⟩
    | cons x R =>
     rw[List.reverse_cons] at c11 hsr hk
     have hpl:(R.reverse++[x]).length=R.length+1:=by simp
     rw[hpl] at c11 hk hsr
     have hpop:=hsr.ok.pop
     have hxu:=mem_unused.1 hpop.2.1
     obtain ⟨y,rfl⟩:∃y:Nat,x=(y:Int):=⟨x.toNat,by omega⟩
     have hy:y≤256:=by have:=hsr.fine.len;have:=hsr.fine.most;omega
     have HPOP:=Lib.hid (fun w1 (hb:Below wr.heap.size wr w1)=>pop_c b Im C vf _ R.reverse (y:Int) w1 (hsr.below hb))
     have hE:Hid (backP C ((y:Int) :: R)=if 0<aboveM (maskL (leftL C R.reverse)) y then some (R.reverse++[((aboveM (maskL (leftL C R.reverse)) y:Nat):Int)]) else backP C R):=rfl
     have HBK:=Lib.hid hbk
     have HNB:=Lib.hid hnb
     clear hbk hnb
     go_wp2
     refine wp_region_S (fun _=>True) [6,5] [(0,0),(0,1),(0,2),(0,3),(1,4),(2,5),(2,6)] (by kernel_rfl) (by kernel_rfl) (by trivial) ?_
     dsimp only[pickOps,nthOp]
     repeat (first|(refine wpS_skip rfl (fun K hK=>?_);go_big_quiet_op;refine hK _ ?_;clear hK K)|(refine wpS_quiet rfl rfl (fun K hK=>?_);go_big_quiet_op;refine hK _ ?_;clear hK K)|(refine wpS_loud ?_;go_wp2_with (first|(go_at_call 195;refine (HPOP.out _ (keep_drew (Below.refl _ _))).mono ?_;rintro _ w5 ⟨rfl,vp5,hsr5,hst5,hk5⟩)|(go_at_call 162;refine (above_c b 5 (maskL (leftL C R.reverse)) y w5 hsr5.set hy).mono ?_;rintro _ w6 ⟨rfl,rfl⟩));refine ⟨?_,?_⟩;focus (trivial)))
     refine wpS_late _ _ _ rfl ?_
     dsimp only[List.map]
     go_wp2_with (first|(go_at_call 195;refine (HPOP.out _ (keep_drew (Below.refl _ _))).mono ?_;rintro _ w5 ⟨rfl,vp5,hsr5,hst5,hk5⟩)|(go_at_call 162;refine (above_c b 5 (maskL (leftL C R.reverse)) y w5 hsr5.set hy).mono ?_;rintro _ w6 ⟨rfl,rfl⟩))
     refine NoPanic.normal ?_
     obtain ⟨vp6,hsr6,hst6,hk6⟩:Stepped w w5 b Im C vf vp R.reverse:=Stepped.trans hst.drew hk ⟨vp5,hsr5,hst5,hk5⟩
     clear HPOP hsr5 hst5 hk5 hsr
     by_cases hab:0<aboveM (maskL (leftL C R.reverse)) y
     ·have hal:=above_left hab
      have HPU:=Lib.hid (push_c b Im C vf vp6 R.reverse _ w5 hsr6 hpop.2.2.2 hal.1 hal.2)
      have hab2:(0:Int)<((aboveM (maskL (leftL C R.reverse)) y:Nat):Int):=by omega
      have hEQ:Hid (nextP C P=some (R.reverse++[((aboveM (maskL (leftL C R.reverse)) y:Nat):Int)])):=HNB.out.trans (HBK.out.symm.trans (hE.out.trans (if_pos hab)))
      clear hal
      go_wp2_with (go_at_call 194;refine HPU.out.mono ?_;rintro _ w7 ⟨rfl,hs7⟩)
      go_ret
      rw[hEQ.out]
      exact ⟨rfl,Stepped.trans hst6 hk6 hs7⟩
     ·have hab2:¬(0:Int)<((aboveM (maskL (leftL C R.reverse)) y:Nat):Int):=by omega
      go_wp2
      go_roundg (R.length+1)
      case measure=>simp
      case rel=>exact ⟨R,rfl,(hE.out.trans (if_neg hab)).symm.trans HBK.out,vp6,hsr6,hst6,hk6⟩
  ·have hw':wrongB C P=false:=by simpa using hw
   rw[hw'] at HW
   have hl:P.length<C.O.length:=by
    have:=H.out.ok.len
    have:P.length≠C.O.length:=fun e=>by rw[e] at hfull';simp at hfull'
    omega
   have ha:=above_first he H.out.fine hl
   have hal:=above_left ha
   have HP:=Lib.hid (fun w1 (hb:Below w.heap.size w w1)=>push_c b Im C vf vp P _ w1 (H.out.below hb) hl hal.1 hal.2)
   have hE:Hid (nextP C P=some (P++[((aboveM (maskL (leftL C P)) 0:Nat):Int)])):=if_pos ⟨hfull',hw'⟩
   clear hal
   go_wp2_with (first|(go_at_call 132;refine HF.out.mono ?_;rintro _ w1 ⟨rfl,hb1⟩)|(go_at_call 133;refine (HW.out _ hb1).mono ?_;rintro _ w2 ⟨rfl,hb2⟩)|(go_at_call 162;refine (HA.out _ (hb1.trans (hb2.mono hb1.size))).mono ?_;rintro _ w3 ⟨rfl,rfl⟩)|(go_at_call 194;refine (HP.out _ (hb1.trans (hb2.mono hb1.size))).mono ?_;rintro _ w4 ⟨rfl,hs4⟩))
   go_ret
   rw[hE.out]
   exact ⟨rfl,Stepped.trans (Below.stays (hb1.trans (hb2.mono hb1.size)) _) (fun k e => .inl e) hs4⟩
end
section
open Go Go.RowKit
theorem owns_up {w:World} {B:Nat} {e:TypeId} {size:Nat} {v:Value} {n:Nat} {xs:List Value} (h:w.ownsRow 0 e size v n xs) (hb:∀k,v.ownBlock=some k→B≤k):w.ownsRow B e size v n xs :=
 ⟨h.1,h.2.imp id fun ⟨g,cap,cur,a,_,r⟩=>⟨g,cap,cur,a,hb g (by rw[a];rfl),r⟩⟩
structure TB (w:World) (al m Bt:Nat) (rows:Nat→List Value) (vs:Nat→Value):Prop where
 lt:al<w.heap.size
 fz:∀k,k<m→w.frozen? ⟨al,k,none⟩=false
 cell:∀k,k<m→w.cell? ⟨al,k,none⟩=some (vs k)
 own:∀k,k<m→w.ownsRow Bt 25 1 (vs k) (rows k).length (rows k)
 apart:∀j k x,j<m→k<m→j≠k→(vs j).ownBlock=some x→(vs k).ownBlock≠some x
theorem TB.add {w w2:World} {al m Bt:Nat} {rows:Nat→List Value} {vs:Nat→Value} (h:TB w al m Bt rows vs) (hal:al<Bt) (hBt:Bt≤w.heap.size) {n:Nat} (hn:n<m) {v' l:Value}
  (hs:Stays (fun k=>(vs n).ownBlock=some k) w w2) (hown:w2.ownsRow 0 25 1 v' ((rows n).length+1) (rows n++[l])) (hnew:∀k,v'.ownBlock=some k→(vs n).ownBlock=some k∨w.heap.size≤k) :
  TB (w2.setCell ⟨al,n,none⟩ v') al m Bt (fun k=>if k=n then rows n++[l] else rows k) (fun k=>if k=n then v' else vs k):=by
 have hna:∀j,j<m→∀x,(vs j).ownBlock=some x→Bt≤x∧x<w.heap.size:=fun j hj x e=>(h.own j hj).lt x e
 have hala:¬(vs n).ownBlock=some al:=fun e=>by have:=(hna n hn al e).1;omega
 have hc:∀k,k<m→w2.cell? ⟨al,k,none⟩=some (vs k):=fun k hk=>(hs.cell h.lt hala).trans (h.cell k hk)
 have hv'al:v'.ownBlock≠some al:=fun e=>by
  rcases hnew al e with e2|e2
  ·exact hala e2
  ·have:=h.lt;omega
 refine ⟨?_,fun k hk=>(World.frozen?_setCell _ _ _ _).trans ((hs.frozen h.lt hala).trans (h.fz k hk)),fun k hk=>?_,fun k hk=>?_,fun j k x hj hk hjk e e2=>?_⟩
 ·have:(w2.setCell ⟨al,n,none⟩ v').heap.size=w2.heap.size:=by simp[World.setCell]
  have:=hs.size
  have:=h.lt
  omega
 ·by_cases e:k=n
  ·subst e
   rw[if_pos rfl]
   exact World.cell?_setCell_same _ _ _ (hc k hk)
  ·rw[if_neg e,World.cell?_setCell_other _ _ _ _ (fun e2=>e (by simp only[Addr.mk.injEq,true_and,and_true] at e2;exact e2.symm))]
   exact hc k hk
 ·by_cases e:k=n
  ·subst e
   simp only[↓reduceIte]
   rw[List.length_append,List.length_singleton]
   refine ownsRow_setCell_other (owns_up hown (fun j e=>?_)) (a:=⟨al,k,none⟩) hv'al _
   rcases hnew j e with e2|e2
   ·exact (hna k hk j e2).1
   ·omega
  ·simp only[if_neg e]
   refine ownsRow_setCell_other (owns_keep (h.own k hk) (fun x e2 hlt=>hs.block x hlt (fun e3=>h.apart n k x hn hk (fun e4=>e e4.symm) e3 e2))) (a:=⟨al,n,none⟩) (fun e2=>?_) _
   have:=(hna k hk al e2).1
   omega
 ·by_cases e3:j=n
  ·subst e3
   have e4:¬k=j:=fun e=>hjk e.symm
   rw[if_pos rfl] at e
   rw[if_neg e4] at e2
   rcases hnew x e with e5|e5
   ·exact h.apart j k x hj hk hjk e5 e2
   ·have:=(hna k hk x e2).2;omega
  ·rw[if_neg e3] at e
   by_cases e4:k=n
   ·subst e4
    rw[if_pos rfl] at e2
    rcases hnew x e2 with e5|e5
    ·exact h.apart j k x hj hk hjk e e5
    ·have:=(hna j hj x e).2;omega
   ·rw[if_neg e4] at e2
    exact h.apart j k x hj hk hjk e e2
theorem RC.sure {w:World} {a:Option Addr} {n:Nat} {ls:List (List Int)} (h:RC w a n ls):Sure (fun k=>k<w.heap.size) w (fun w'=>RC w' a n ls):=by
 intro w' hs hb
 refine ⟨h.1,fun k hk=>?_⟩
 obtain ⟨b,off,a',n',c',e,hlt,hc,hi,hn⟩:=h.2 k hk
 refine ⟨b,off,a',n',c',e,Nat.lt_of_lt_of_le hlt hs,(World.cell?_of_block (hb b hlt)).trans hc,⟨hi.1,fun j hj=>?_⟩,hn⟩
 obtain ⟨b2,off2,e2,hlt2,hc2⟩:=hi.2 j hj
 exact ⟨b2,off2,e2,Nat.lt_of_lt_of_le hlt2 hs,(World.cell?_of_block (hb b2 hlt2)).trans hc2⟩
def cutW (w:World) (B:Nat):World:={ w with heap:=w.heap.extract 0 B }
theorem cutW_size {w:World} {B:Nat} (h:B≤w.heap.size):(cutW w B).heap.size=B:=by
 simp[cutW];omega
theorem cutW_below {w:World} {B:Nat} (h:B≤w.heap.size):Below (cutW w B).heap.size (cutW w B) w:=by
 refine ⟨rfl,rfl,rfl,by rw[cutW_size h];exact h,fun k hk=>?_⟩
 rw[cutW_size h] at hk
 simp only[cutW]
 rw[Array.getElem?_extract]
 simp
 omega
theorem cutW_cell {w:World} {B:Nat} (h:B≤w.heap.size) {b o:Nat} (hb:b<B):(cutW w B).cell? ⟨b,o,none⟩=w.cell? ⟨b,o,none⟩ :=
 ((bcell (cutW_below h)).1 b o (by rw[cutW_size h];exact hb)).symm
noncomputable def lineV (w:World) (a:Option Addr) (k:Nat):Value :=
 match a with|some ⟨b,off,_⟩=>(w.cell? ⟨b,off+k,none⟩).getD (.slice none 0 0)|none => .slice none 0 0
def rowsTo (O:List Int) (ls:List (List Int)) (lv:Nat→Value) (j k:Nat):List Value:=((List.range j).filter (fun i=>lastO O (ls[i]?.getD [])==k)).map lv
theorem rowsTo_succ (O:List Int) (ls:List (List Int)) (lv:Nat→Value) (j:Nat):rowsTo O ls lv (j+1)=fun k=>if k=lastO O (ls[j]?.getD []) then rowsTo O ls lv j (lastO O (ls[j]?.getD []))++[lv j] else rowsTo O ls lv j k:=by
 funext k
 simp only[rowsTo,List.range_succ,List.filter_append,List.map_append]
 by_cases e:k=lastO O (ls[j]?.getD [])
 ·subst e
  rw[if_pos rfl]
  simp
 ·rw[if_neg e]
  have e2:(lastO O (ls[j]?.getD [])==k)=false:=by simp;exact fun h=>e h.symm
  simp[e2]
def lastTo (O:List Int) (l:List Int) (k:Nat):Nat:=(List.range k).foldl (fun m i=>if hasB l (O[i]?.getD 0)=true then i+1 else m) 0
theorem lastTo_succ (O:List Int) (l:List Int) (k:Nat):lastTo O l (k+1)=if hasB l (O[k]?.getD 0)=true then k+1 else lastTo O l k:=by
 simp[lastTo,List.range_succ,List.foldl_append]
theorem lastTo_le (O:List Int) (l:List Int):∀k,lastTo O l k≤k
 | 0=>Nat.le_refl _
 | k+1=>by
  rw[lastTo_succ]
  have:=lastTo_le O l k
  split <;> omega
end
section
open Go Go.RowKit
theorem filter_range {α:Type} (ls:List α) (d:α) (p:α→Bool):ls.filter p=((List.range ls.length).filter (fun i=>p (ls[i]?.getD d))).map (fun i=>ls[i]?.getD d):=by
 have h:ls=(List.range ls.length).map (fun i=>ls[i]?.getD d):=by
  apply List.ext_getElem?
  intro i
  by_cases hi:i<ls.length
  ·simp[hi]
  ·simp[Nat.le_of_not_lt hi]
 conv=>lhs;rw[h]
 rw[List.filter_map]
 rfl
theorem row_rc {w w0:World} {a:Option Addr} {n:Nat} {ls:List (List Int)} {O:List Int} {k B:Nat} {ar:Option Addr} {nr cr:Nat} (hl:ls.length=n) (hsmall:n≤17592186044416)
  (hlv:∀i,i<n→∃a9 n9 c9,lineV w0 a i = .slice a9 n9 c9∧IC w a9 n9 (ls[i]?.getD [])∧n9≤c9)
  (hown:w.ownsRow B 25 1 (.slice ar nr cr) (rowsTo O ls (lineV w0 a) n k).length (rowsTo O ls (lineV w0 a) n k)) :
  RC w ar nr (ls.filter (fun l=>lastO O l==k))∧nr≤cr:=by
 have hnr:nr=(rowsTo O ls (lineV w0 a) n k).length∧nr≤cr:=by
  rcases hown.2 with ⟨e,e2⟩|⟨_,_,_,e,_,_,e3,_⟩
  ·simp only[Value.slice.injEq] at e;omega
  ·simp only[Value.slice.injEq] at e;omega
 obtain ⟨hnr,hnc⟩:=hnr
 have hf:=filter_range ls [] (fun l=>lastO O l==k)
 rw[hl] at hf
 have hrl:(rowsTo O ls (lineV w0 a) n k).length=((List.range n).filter (fun i=>lastO O (ls[i]?.getD [])==k)).length:=by simp[rowsTo]
 have hle:=List.length_filter_le (fun i=>lastO O (ls[i]?.getD [])==k) (List.range n)
 rw[List.length_range] at hle
 refine ⟨⟨⟨by rw[hf,List.length_map,hnr,hrl],by omega⟩,fun i hi=>?_⟩,hnc⟩
 have hi2:i<(rowsTo O ls (lineV w0 a) n k).length:=by omega
 obtain ⟨g,cap,x,hv,hx,hc,_,hg,_⟩:=owns_free (owns_base hown (Nat.zero_le _)) i hi2
 simp only[Value.slice.injEq] at hv
 obtain ⟨rfl,_,_⟩:=hv
 have hi3:i<((List.range n).filter (fun i=>lastO O (ls[i]?.getD [])==k)).length:=by omega
 have hm:=List.getElem_mem hi3
 rw[List.mem_filter,List.mem_range] at hm
 obtain ⟨a9,n9,c9,hl9,hic,hn9⟩:=hlv _ hm.1
 have hx2:x = .slice a9 n9 c9:=by
  rw[rowsTo,List.getElem?_map,List.getElem?_eq_getElem hi3] at hx
  simp only[Option.map_some,Option.some.injEq] at hx
  rw[← hx,hl9]
 refine ⟨g,0,a9,n9,c9,rfl,hg,by rw[Nat.zero_add,hc,hx2],?_,hn9⟩
 rw[hf,List.getElem?_map,List.getElem?_eq_getElem hi3]
 exact hic
end
end Go.Proofs.YtaadpihbjhachaaGreat
