/- Texts C20 to C24 of this proof, in one file. -/
import Derived.Test.YtaadpihbjhachaaGreatW04
namespace Go.Proofs.YtaadpihbjhachaaGreat
set_option maxRecDepth 100000
set_option maxHeartbeats 16000000
section
open Go Go.RowKit
attribute [local go_sem] zv
theorem Stepped.refl {w:World} {b:Nat} {Im:Nat→Prop} {C:Cst} {vf vp:Value} {P:List Int} (h:SR w b Im C vf vp P):Stepped w w b Im C vf vp P :=
 ⟨vp,h,Stays.refl _ _,fun _ e => .inl e⟩
theorem Stepped.trans {w w1 w2:World} {b:Nat} {Im:Nat→Prop} {C:Cst} {vf vp vp1:Value} {P:List Int} (hs:Stays (Mut b vf vp) w w1) (hk:∀k,vp1.ownBlock=some k→vp.ownBlock=some k∨w.heap.size≤k) (h2:Stepped w1 w2 b Im C vf vp1 P):Stepped w w2 b Im C vf vp P:=by
 obtain ⟨vp2,hr,hs2,hk2⟩:=h2
 refine ⟨vp2,hr,hs.trans hs2 (fun i e=>?_),fun k e=>?_⟩
 ·rcases e with e|e|e
  ·exact .inl (.inl e)
  ·exact .inl (.inr (.inl e))
  ·exact (hk i e).imp (fun e => .inr (.inr e)) id
 ·rcases hk2 k e with e|e
  ·exact hk k e
  ·exact .inr (Nat.le_trans hs.size e)
theorem Stepped.below {w w1 w2:World} {b:Nat} {Im:Nat→Prop} {C:Cst} {vf vp:Value} {P:List Int} (h:Stepped w w1 b Im C vf vp P) (hb:Below w1.heap.size w1 w2):Stepped w w2 b Im C vf vp P:=by
 obtain ⟨vp1,hr,hs,hk⟩:=h
 exact ⟨vp1,hr.below hb,hs.trans (Below.stays hb (Mut b vf vp)) (fun i e => .inl e),hk⟩
def qc (C:Cst):List Int→Option (List Int)
 | []=>none
 | x :: R=>if 0<zJ (zZ (jg C R.reverse)) x.toNat then some (R.reverse++[((zJ (zZ (jg C R.reverse)) x.toNat:Nat):Int)]) else qc C R
def jJ (C:Cst) (P:List Int):Option (List Int) :=
 if (P.length==C.O.length)=false∧jE C P=false then some (P++[((zJ (zZ (jg C P)) 0:Nat):Int)]) else qc C P.reverse
theorem jH {M x:Nat} (h:0<zJ M x):x<zJ M x∧zJ M x≤256∧M.testBit (zJ M x - 1)=true:=by
 unfold zJ at h ⊢
 cases e:(List.range 257).find? (fun j=>decide (x<j)&&M.testBit (j - 1)) with
 | none=>rw[e] at h;exact absurd h (by simp)
 | some j =>
  have h1:=List.find?_some e
  have h2:=List.mem_of_find?_eq_some e
  simp only[Bool.and_eq_true,decide_eq_true_eq] at h1
  show x<j∧j≤256∧M.testBit (j - 1)=true
  exact ⟨h1.1,by have:=List.mem_range.1 h2;omega,h1.2⟩
theorem above_left {C:Cst} {P:List Int} {x:Nat} (h:0<zJ (zZ (jg C P)) x):((zJ (zZ (jg C P)) x:Nat):Int)∈zh C.g∧((zJ (zZ (jg C P)) x:Nat):Int) ∉ P:=by
 have h1:=(jH h).2.2
 rw[jW,hasB_left,Bool.and_eq_true,Bool.not_eq_true'] at h1
 have e:((zJ (zZ (jg C P)) x - 1:Nat):Int)+1=((zJ (zZ (jg C P)) x:Nat):Int):=by omega
 rw[e] at h1
 exact ⟨js.1 h1.1,fun hm=>by rw[js.2 hm] at h1;exact absurd h1.2 (by decide)⟩
theorem nodup_le:∀{l m:List Int},l.Nodup→(∀x,x∈l→x∈m)→l.length≤m.length
 | [],m,_,_=>Nat.zero_le _
 | x :: l,m,hn,hs=>by
  have hx:=hs x List.mem_cons_self
  have hn':=List.nodup_cons.1 hn
  have:=nodup_le (l:=l) (m:=m.erase x) hn'.2 (fun y hy=>by
   rw[List.mem_erase_of_ne (fun e:y=x=>hn'.1 (by rw[← e];exact hy))]
   exact hs y (List.mem_cons_of_mem _ hy))
  rw[List.length_erase_of_mem hx] at this
  have:0<m.length:=List.length_pos_of_mem hx
  simp only[List.length_cons]
  omega
def Even (C:Cst):Prop:=(zh C.g).length=C.O.length
theorem above_first {C:Cst} {P:List Int} (he:Even C) (hf:Fine C) (hl:P.length<C.O.length):0<zJ (zZ (jg C P)) 0:=by
 rcases Nat.eq_zero_or_pos (zJ (zZ (jg C P)) 0) with h0|h0
 ·exfalso
  have hall:∀x,x∈zh C.g→x∈P:=by
   intro x hx
   have h3:=zT.1 hx
   have:=hf.len
   have:=hf.most
   apply Classical.byContradiction
   intro hn
   have hb:(zZ (jg C P)).testBit (x.toNat - 1)=true:=by
    rw[jW,hasB_left,show ((x.toNat - 1:Nat):Int)+1=x from by omega,js.2 hx]
    simp only[Bool.true_and,Bool.not_eq_true']
    rw[Bool.eq_false_iff]
    exact fun h=>hn (js.1 h)
   unfold zJ at h0
   cases e:(List.range 257).find? (fun j=>decide (0<j)&&(zZ (jg C P)).testBit (j - 1)) with
   | none =>
    rw[List.find?_eq_none] at e
    have:=e x.toNat (List.mem_range.2 (by omega))
    simp[hb] at this
    omega
   | some j =>
    rw[e] at h0
    have h1:=List.find?_some e
    simp only[Bool.and_eq_true,decide_eq_true_eq] at h1
    have:j=0:=h0
    omega
  have:=nodup_le (unused_nodup C.g) hall
  have:(zh C.g).length=C.O.length:=he
  omega
 ·exact h0
theorem next_c (b:Nat) (Im:Nat→Prop) (C:Cst) (vf vp:Value) (P:List Int) (w:World) (h:SR w b Im C vf vp P) (he:Even C) :
  Calls Tryz.prog 131 #[.pointer (some ⟨b,0,none⟩)] w fun e w'=>e = .returned (.bool (jJ C P).isSome)∧Stepped w w' b Im C vf vp ((jJ C P).getD []):=by
 go_enter Tryz.func131,Tryz.ntmps131
 have HF:=za (full_c b Im C vf vp P w h)
 have HW:=za (fun w1 (hb:Below w.heap.size w w1)=>wrong_c b Im C vf vp P w1 (h.below hb))
 have HA:=za (fun w1 (hb:Below w.heap.size w w1)=>qR b 5 (zZ (jg C P)) 0 w1 (h.below hb).set (by omega))
 have H:=za h
 clear h
 by_cases hfull:(P.length==C.O.length)=true
 ·rw[hfull] at HF
  go_wp2_with (first|(go_at_call 132;refine HF.out.mono ?_;rintro _ w1 ⟨rfl,hb1⟩)|(go_at_call 133;refine (HW.out _ hb1).mono ?_;rintro _ w2 ⟨rfl,hb2⟩))
  have HN:jJ C P=qc C P.reverse:=if_neg (fun e=>by rw[hfull] at e;exact absurd e.1 (by decide))
  have HSX:=(Stepped.refl H.out).below hb1
  obtain ⟨hnb,hS⟩:jJ C P=qc C P.reverse∧Stepped w w1 b Im C vf vp P:=⟨HN,HSX⟩
  go_loopg [] (P.length+1) (fun k wr=>∃R:List Int,k=R.length+1∧qc C R=qc C P.reverse∧Stepped w wr b Im C vf vp R.reverse)
  case atStart=>exact ⟨P.reverse,by simp,rfl,by rw[List.reverse_reverse];exact hS⟩
  case round =>
   obtain ⟨R,rfl,hbk,vp1,hsr,hst,hk⟩:=hrel
   have hlt:=hsr.lt
   have c11:=hsr.c11
   obtain ⟨ap,cp,rfl⟩:=zr hsr.p
   cases R with
   | nil =>
    simp only[List.reverse_nil,List.length_nil] at c11
    have hE:=hnb.trans hbk.symm
    clear hbk hnb
    go_wp2
    go_ret
    rw[show jJ C P=none from hE]
    exact ⟨rfl,_,hsr,hst,hk⟩
   | cons x R =>
    rw[List.reverse_cons] at c11 hsr hk
    have hpl:(R.reverse++[x]).length=R.length+1:=by simp
    rw[hpl] at c11 hk hsr
    have hpop:=hsr.ok.pop
    have hxu:=zT.1 hpop.2.1
    obtain ⟨y,rfl⟩:∃y:Nat,x=(y:Int):=⟨x.toNat,by omega⟩
    have hy:y≤256:=by have:=hsr.fine.len;have:=hsr.fine.most;omega
    have HPOP:=za (fun w1 (hb:Below wr.heap.size wr w1)=>pop_c b Im C vf _ R.reverse (y:Int) w1 (hsr.below hb))
    have hE:Hid (qc C ((y:Int) :: R)=if 0<zJ (zZ (jg C R.reverse)) y then some (R.reverse++[((zJ (zZ (jg C R.reverse)) y:Nat):Int)]) else qc C R):=rfl
    have HBK:=za hbk
    have HNB:=za hnb
    clear hbk hnb
    go_wp2
    refine zk (fun _=>True) [6,5] [(0,0),(0,1),(0,2),(0,3),(1,4),(2,5),(2,6)] (by kernel_rfl) (by kernel_rfl) (by trivial) ?_
    dsimp only[zt,zG]
    repeat (first|(refine zu rfl (fun K hK=>?_);go_big_quiet_op;refine hK _ ?_;clear hK K)|(refine zp rfl rfl (fun K hK=>?_);go_big_quiet_op;refine hK _ ?_;clear hK K)|(refine zE ?_;go_wp2_with (first|(go_at_call 195;refine (HPOP.out _ (zd (Below.refl _ _))).mono ?_;rintro _ w5 ⟨rfl,vp5,hsr5,hst5,hk5⟩)|(go_at_call 162;refine (qR b 5 (zZ (jg C R.reverse)) y w5 hsr5.set hy).mono ?_;rintro _ w6 ⟨rfl,rfl⟩));refine ⟨?_,?_⟩;focus (trivial)))
    refine zA _ _ _ rfl ?_
    dsimp only[List.map]
    go_wp2_with (first|(go_at_call 195;refine (HPOP.out _ (zd (Below.refl _ _))).mono ?_;rintro _ w5 ⟨rfl,vp5,hsr5,hst5,hk5⟩)|(go_at_call 162;refine (qR b 5 (zZ (jg C R.reverse)) y w5 hsr5.set hy).mono ?_;rintro _ w6 ⟨rfl,rfl⟩))
    refine NoPanic.normal ?_
    obtain ⟨vp6,hsr6,hst6,hk6⟩:Stepped w w5 b Im C vf vp R.reverse:=Stepped.trans hst.drew hk ⟨vp5,hsr5,hst5,hk5⟩
    clear HPOP hsr5 hst5 hk5 hsr
    by_cases hab:0<zJ (zZ (jg C R.reverse)) y
    ·have hal:=above_left hab
     have HPU:=za (push_c b Im C vf vp6 R.reverse _ w5 hsr6 hpop.2.2.2 hal.1 hal.2)
     have hab2:(0:Int)<((zJ (zZ (jg C R.reverse)) y:Nat):Int):=by omega
     have hEQ:Hid (jJ C P=some (R.reverse++[((zJ (zZ (jg C R.reverse)) y:Nat):Int)])):=HNB.out.trans (HBK.out.symm.trans (hE.out.trans (if_pos hab)))
     clear hal
     go_wp2_with (go_at_call 194;refine HPU.out.mono ?_;rintro _ w7 ⟨rfl,hs7⟩)
     go_ret
     rw[hEQ.out]
     exact ⟨rfl,Stepped.trans hst6 hk6 hs7⟩
    ·have hab2:¬(0:Int)<((zJ (zZ (jg C R.reverse)) y:Nat):Int):=by omega
     go_wp2
     go_roundg (R.length+1)
     case measure=>simp
     case rel=>exact ⟨R,rfl,(hE.out.trans (if_neg hab)).symm.trans HBK.out,vp6,hsr6,hst6,hk6⟩
 ·have hfull':(P.length==C.O.length)=false:=by simpa using hfull
  rw[hfull'] at HF
  by_cases hw:jE C P=true
  ·rw[hw] at HW
   go_wp2_with (first|(go_at_call 132;refine HF.out.mono ?_;rintro _ w1 ⟨rfl,hb1⟩)|(go_at_call 133;refine (HW.out _ hb1).mono ?_;rintro _ w2 ⟨rfl,hb2⟩))
   have HN:jJ C P=qc C P.reverse:=if_neg (fun e=>by rw[hw] at e;exact absurd e.2 (by decide))
   have HSX:=((Stepped.refl H.out).below hb1).below hb2
   obtain ⟨hnb,hS⟩:jJ C P=qc C P.reverse∧Stepped w w2 b Im C vf vp P:=⟨HN,HSX⟩
   go_loopg [] (P.length+1) (fun k wr=>∃R:List Int,k=R.length+1∧qc C R=qc C P.reverse∧Stepped w wr b Im C vf vp R.reverse)
   case atStart=>exact ⟨P.reverse,by simp,rfl,by rw[List.reverse_reverse];exact hS⟩
   case round =>
    obtain ⟨R,rfl,hbk,vp1,hsr,hst,hk⟩:=hrel
    have hlt:=hsr.lt
    have c11:=hsr.c11
    obtain ⟨ap,cp,rfl⟩:=zr hsr.p
    cases R with
    | nil =>
     simp only[List.reverse_nil,List.length_nil] at c11
     have hE:=hnb.trans hbk.symm
     clear hbk hnb
     go_wp2
     go_ret
     rw[show jJ C P=none from hE]
     exact ⟨rfl,_,hsr,hst,hk⟩
    | cons x R =>
     rw[List.reverse_cons] at c11 hsr hk
     have hpl:(R.reverse++[x]).length=R.length+1:=by simp
     rw[hpl] at c11 hk hsr
     have hpop:=hsr.ok.pop
     have hxu:=zT.1 hpop.2.1
     obtain ⟨y,rfl⟩:∃y:Nat,x=(y:Int):=⟨x.toNat,by omega⟩
     have hy:y≤256:=by have:=hsr.fine.len;have:=hsr.fine.most;omega
     have HPOP:=za (fun w1 (hb:Below wr.heap.size wr w1)=>pop_c b Im C vf _ R.reverse (y:Int) w1 (hsr.below hb))
     have hE:Hid (qc C ((y:Int) :: R)=if 0<zJ (zZ (jg C R.reverse)) y then some (R.reverse++[((zJ (zZ (jg C R.reverse)) y:Nat):Int)]) else qc C R):=rfl
     have HBK:=za hbk
     have HNB:=za hnb
     clear hbk hnb
     go_wp2
     refine zk (fun _=>True) [6,5] [(0,0),(0,1),(0,2),(0,3),(1,4),(2,5),(2,6)] (by kernel_rfl) (by kernel_rfl) (by trivial) ?_
     dsimp only[zt,zG]
     repeat (first|(refine zu rfl (fun K hK=>?_);go_big_quiet_op;refine hK _ ?_;clear hK K)|(refine zp rfl rfl (fun K hK=>?_);go_big_quiet_op;refine hK _ ?_;clear hK K)|(refine zE ?_;go_wp2_with (first|(go_at_call 195;refine (HPOP.out _ (zd (Below.refl _ _))).mono ?_;rintro _ w5 ⟨rfl,vp5,hsr5,hst5,hk5⟩)|(go_at_call 162;refine (qR b 5 (zZ (jg C R.reverse)) y w5 hsr5.set hy).mono ?_;rintro _ w6 ⟨rfl,rfl⟩));refine ⟨?_,?_⟩;focus (trivial)))
     refine zA _ _ _ rfl ?_
     dsimp only[List.map]
     go_wp2_with (first|(go_at_call 195;refine (HPOP.out _ (zd (Below.refl _ _))).mono ?_;rintro _ w5 ⟨rfl,vp5,hsr5,hst5,hk5⟩)|(go_at_call 162;refine (qR b 5 (zZ (jg C R.reverse)) y w5 hsr5.set hy).mono ?_;rintro _ w6 ⟨rfl,rfl⟩))
     refine NoPanic.normal ?_
     obtain ⟨vp6,hsr6,hst6,hk6⟩:Stepped w w5 b Im C vf vp R.reverse:=Stepped.trans hst.drew hk ⟨vp5,hsr5,hst5,hk5⟩
     clear HPOP hsr5 hst5 hk5 hsr
     by_cases hab:0<zJ (zZ (jg C R.reverse)) y
     ·have hal:=above_left hab
      have HPU:=za (push_c b Im C vf vp6 R.reverse _ w5 hsr6 hpop.2.2.2 hal.1 hal.2)
      have hab2:(0:Int)<((zJ (zZ (jg C R.reverse)) y:Nat):Int):=by omega
      have hEQ:Hid (jJ C P=some (R.reverse++[((zJ (zZ (jg C R.reverse)) y:Nat):Int)])):=HNB.out.trans (HBK.out.symm.trans (hE.out.trans (if_pos hab)))
      clear hal
      go_wp2_with (go_at_call 194;refine HPU.out.mono ?_;rintro _ w7 ⟨rfl,hs7⟩)
      go_ret
      rw[hEQ.out]
      exact ⟨rfl,Stepped.trans hst6 hk6 hs7⟩
     ·have hab2:¬(0:Int)<((zJ (zZ (jg C R.reverse)) y:Nat):Int):=by omega
      go_wp2
      go_roundg (R.length+1)
      case measure=>simp
      case rel=>exact ⟨R,rfl,(hE.out.trans (if_neg hab)).symm.trans HBK.out,vp6,hsr6,hst6,hk6⟩
  ·have hw':jE C P=false:=by simpa using hw
   rw[hw'] at HW
   have hl:P.length<C.O.length:=by
    have:=H.out.ok.len
    have:P.length≠C.O.length:=fun e=>by rw[e] at hfull';simp at hfull'
    omega
   have ha:=above_first he H.out.fine hl
   have hal:=above_left ha
   have HP:=za (fun w1 (hb:Below w.heap.size w w1)=>push_c b Im C vf vp P _ w1 (H.out.below hb) hl hal.1 hal.2)
   have hE:Hid (jJ C P=some (P++[((zJ (zZ (jg C P)) 0:Nat):Int)])):=if_pos ⟨hfull',hw'⟩
   clear hal
   go_wp2_with (first|(go_at_call 132;refine HF.out.mono ?_;rintro _ w1 ⟨rfl,hb1⟩)|(go_at_call 133;refine (HW.out _ hb1).mono ?_;rintro _ w2 ⟨rfl,hb2⟩)|(go_at_call 162;refine (HA.out _ (hb1.trans (hb2.mono hb1.size))).mono ?_;rintro _ w3 ⟨rfl,rfl⟩)|(go_at_call 194;refine (HP.out _ (hb1.trans (hb2.mono hb1.size))).mono ?_;rintro _ w4 ⟨rfl,hs4⟩))
   go_ret
   rw[hE.out]
   exact ⟨rfl,Stepped.trans (Below.stays (hb1.trans (hb2.mono hb1.size)) _) (fun k e => .inl e) hs4⟩
end
section
open Go Go.RowKit
theorem owns_up {w:World} {B:Nat} {e:TypeId} {size:Nat} {v:Value} {n:Nat} {xs:List Value} (h:w.ownsRow 0 e size v n xs) (hb:∀k,v.ownBlock=some k→B≤k):w.ownsRow B e size v n xs :=
 ⟨h.1,h.2.imp id fun ⟨g,cap,cur,a,_,r⟩=>⟨g,cap,cur,a,hb g (by rw[a];rfl),r⟩⟩
structure TB (w:World) (al m Bt:Nat) (rows:Nat→List Value) (vs:Nat→Value):Prop where
 lt:al<w.heap.size
 fz:∀k,k<m→w.frozen? ⟨al,k,none⟩=false
 cell:∀k,k<m→w.cell? ⟨al,k,none⟩=some (vs k)
 own:∀k,k<m→w.ownsRow Bt 25 1 (vs k) (rows k).length (rows k)
 apart:∀j k x,j<m→k<m→j≠k→(vs j).ownBlock=some x→(vs k).ownBlock≠some x
theorem TB.add {w w2:World} {al m Bt:Nat} {rows:Nat→List Value} {vs:Nat→Value} (h:TB w al m Bt rows vs) (hal:al<Bt) (hBt:Bt≤w.heap.size) {n:Nat} (hn:n<m) {v' l:Value}
  (hs:Stays (fun k=>(vs n).ownBlock=some k) w w2) (hown:w2.ownsRow 0 25 1 v' ((rows n).length+1) (rows n++[l])) (hnew:∀k,v'.ownBlock=some k→(vs n).ownBlock=some k∨w.heap.size≤k) :
  TB (w2.setCell ⟨al,n,none⟩ v') al m Bt (fun k=>if k=n then rows n++[l] else rows k) (fun k=>if k=n then v' else vs k):=by
 have hna:∀j,j<m→∀x,(vs j).ownBlock=some x→Bt≤x∧x<w.heap.size:=fun j hj x e=>(h.own j hj).lt x e
 have hala:¬(vs n).ownBlock=some al:=fun e=>by have:=(hna n hn al e).1;omega
 have hc:∀k,k<m→w2.cell? ⟨al,k,none⟩=some (vs k):=fun k hk=>(hs.cell h.lt hala).trans (h.cell k hk)
 have hv'al:v'.ownBlock≠some al:=fun e=>by
  rcases hnew al e with e2|e2
  ·exact hala e2
  ·have:=h.lt;omega
 refine ⟨?_,fun k hk=>(World.frozen?_setCell _ _ _ _).trans ((hs.frozen h.lt hala).trans (h.fz k hk)),fun k hk=>?_,fun k hk=>?_,fun j k x hj hk hjk e e2=>?_⟩
 ·have:(w2.setCell ⟨al,n,none⟩ v').heap.size=w2.heap.size:=by simp[World.setCell]
  have:=hs.size
  have:=h.lt
  omega
 ·by_cases e:k=n
  ·subst e
   rw[if_pos rfl]
   exact World.cell?_setCell_same _ _ _ (hc k hk)
  ·rw[if_neg e,World.cell?_setCell_other _ _ _ _ (fun e2=>e (by simp only[Addr.mk.injEq,true_and,and_true] at e2;exact e2.symm))]
   exact hc k hk
 ·by_cases e:k=n
  ·subst e
   simp only[↓reduceIte]
   rw[List.length_append,List.length_singleton]
   refine ownsRow_setCell_other (owns_up hown (fun j e=>?_)) (a:=⟨al,k,none⟩) hv'al _
   rcases hnew j e with e2|e2
   ·exact (hna k hk j e2).1
   ·omega
  ·simp only[if_neg e]
   refine ownsRow_setCell_other (zw (h.own k hk) (fun x e2 hlt=>hs.block x hlt (fun e3=>h.apart n k x hn hk (fun e4=>e e4.symm) e3 e2))) (a:=⟨al,n,none⟩) (fun e2=>?_) _
   have:=(hna k hk al e2).1
   omega
 ·by_cases e3:j=n
  ·subst e3
   have e4:¬k=j:=fun e=>hjk e.symm
   rw[if_pos rfl] at e
   rw[if_neg e4] at e2
   rcases hnew x e with e5|e5
   ·exact h.apart j k x hj hk hjk e5 e2
   ·have:=(hna k hk x e2).2;omega
  ·rw[if_neg e3] at e
   by_cases e4:k=n
   ·subst e4
    rw[if_pos rfl] at e2
    rcases hnew x e2 with e5|e5
    ·exact h.apart j k x hj hk hjk e e5
    ·have:=(hna j hj x e).2;omega
   ·rw[if_neg e4] at e2
    exact h.apart j k x hj hk hjk e e2
theorem RC.sure {w:World} {a:Option Addr} {n:Nat} {ls:List (List Int)} (h:RC w a n ls):Sure (fun k=>k<w.heap.size) w (fun w'=>RC w' a n ls):=by
 intro w' hs hb
 refine ⟨h.1,fun k hk=>?_⟩
 obtain ⟨b,off,a',n',c',e,hlt,hc,hi,hn⟩:=h.2 k hk
 refine ⟨b,off,a',n',c',e,Nat.lt_of_lt_of_le hlt hs,(World.cell?_of_block (hb b hlt)).trans hc,⟨hi.1,fun j hj=>?_⟩,hn⟩
 obtain ⟨b2,off2,e2,hlt2,hc2⟩:=hi.2 j hj
 exact ⟨b2,off2,e2,Nat.lt_of_lt_of_le hlt2 hs,(World.cell?_of_block (hb b2 hlt2)).trans hc2⟩
def cutW (w:World) (B:Nat):World:={ w with heap:=w.heap.extract 0 B }
theorem cutW_size {w:World} {B:Nat} (h:B≤w.heap.size):(cutW w B).heap.size=B:=by
 simp[cutW];omega
theorem cutW_below {w:World} {B:Nat} (h:B≤w.heap.size):Below (cutW w B).heap.size (cutW w B) w:=by
 refine ⟨rfl,rfl,rfl,by rw[cutW_size h];exact h,fun k hk=>?_⟩
 rw[cutW_size h] at hk
 simp only[cutW]
 rw[Array.getElem?_extract]
 simp
 omega
theorem cutW_cell {w:World} {B:Nat} (h:B≤w.heap.size) {b o:Nat} (hb:b<B):(cutW w B).cell? ⟨b,o,none⟩=w.cell? ⟨b,o,none⟩ :=
 ((zF (cutW_below h)).1 b o (by rw[cutW_size h];exact hb)).symm
noncomputable def lineV (w:World) (a:Option Addr) (k:Nat):Value :=
 match a with|some ⟨b,off,_⟩=>(w.cell? ⟨b,off+k,none⟩).getD (.slice none 0 0)|none => .slice none 0 0
def jT (O:List Int) (ls:List (List Int)) (lv:Nat→Value) (j k:Nat):List Value:=((List.range j).filter (fun i=>qU O (ls[i]?.getD [])==k)).map lv
theorem rowsTo_succ (O:List Int) (ls:List (List Int)) (lv:Nat→Value) (j:Nat):jT O ls lv (j+1)=fun k=>if k=qU O (ls[j]?.getD []) then jT O ls lv j (qU O (ls[j]?.getD []))++[lv j] else jT O ls lv j k:=by
 funext k
 simp only[jT,List.range_succ,List.filter_append,List.map_append]
 by_cases e:k=qU O (ls[j]?.getD [])
 ·subst e
  rw[if_pos rfl]
  simp
 ·rw[if_neg e]
  have e2:(qU O (ls[j]?.getD [])==k)=false:=by simp;exact fun h=>e h.symm
  simp[e2]
def lastTo (O:List Int) (l:List Int) (k:Nat):Nat:=(List.range k).foldl (fun m i=>if zY l (O[i]?.getD 0)=true then i+1 else m) 0
theorem lastTo_succ (O:List Int) (l:List Int) (k:Nat):lastTo O l (k+1)=if zY l (O[k]?.getD 0)=true then k+1 else lastTo O l k:=by
 simp[lastTo,List.range_succ,List.foldl_append]
theorem lastTo_le (O:List Int) (l:List Int):∀k,lastTo O l k≤k
 | 0=>Nat.le_refl _
 | k+1=>by
  rw[lastTo_succ]
  have:=lastTo_le O l k
  split <;> omega
end
section
open Go Go.RowKit
theorem filter_range {α:Type} (ls:List α) (d:α) (p:α→Bool):ls.filter p=((List.range ls.length).filter (fun i=>p (ls[i]?.getD d))).map (fun i=>ls[i]?.getD d):=by
 have h:ls=(List.range ls.length).map (fun i=>ls[i]?.getD d):=by
  apply List.ext_getElem?
  intro i
  by_cases hi:i<ls.length
  ·simp[hi]
  ·simp[Nat.le_of_not_lt hi]
 conv=>lhs;rw[h]
 rw[List.filter_map]
 rfl
theorem row_rc {w w0:World} {a:Option Addr} {n:Nat} {ls:List (List Int)} {O:List Int} {k B:Nat} {ar:Option Addr} {nr cr:Nat} (hl:ls.length=n) (hsmall:n≤17592186044416)
  (hlv:∀i,i<n→∃a9 n9 c9,lineV w0 a i = .slice a9 n9 c9∧IC w a9 n9 (ls[i]?.getD [])∧n9≤c9)
  (hown:w.ownsRow B 25 1 (.slice ar nr cr) (jT O ls (lineV w0 a) n k).length (jT O ls (lineV w0 a) n k)) :
  RC w ar nr (ls.filter (fun l=>qU O l==k))∧nr≤cr:=by
 have hnr:nr=(jT O ls (lineV w0 a) n k).length∧nr≤cr:=by
  rcases hown.2 with ⟨e,e2⟩|⟨_,_,_,e,_,_,e3,_⟩
  ·simp only[Value.slice.injEq] at e;omega
  ·simp only[Value.slice.injEq] at e;omega
 obtain ⟨hnr,hnc⟩:=hnr
 have hf:=filter_range ls [] (fun l=>qU O l==k)
 rw[hl] at hf
 have hrl:(jT O ls (lineV w0 a) n k).length=((List.range n).filter (fun i=>qU O (ls[i]?.getD [])==k)).length:=by simp[jT]
 have hle:=List.length_filter_le (fun i=>qU O (ls[i]?.getD [])==k) (List.range n)
 rw[List.length_range] at hle
 refine ⟨⟨⟨by rw[hf,List.length_map,hnr,hrl],by omega⟩,fun i hi=>?_⟩,hnc⟩
 have hi2:i<(jT O ls (lineV w0 a) n k).length:=by omega
 obtain ⟨g,cap,x,hv,hx,hc,_,hg,_⟩:=jq (zI hown (Nat.zero_le _)) i hi2
 simp only[Value.slice.injEq] at hv
 obtain ⟨rfl,_,_⟩:=hv
 have hi3:i<((List.range n).filter (fun i=>qU O (ls[i]?.getD [])==k)).length:=by omega
 have hm:=List.getElem_mem hi3
 rw[List.mem_filter,List.mem_range] at hm
 obtain ⟨a9,n9,c9,hl9,hic,hn9⟩:=hlv _ hm.1
 have hx2:x = .slice a9 n9 c9:=by
  rw[jT,List.getElem?_map,List.getElem?_eq_getElem hi3] at hx
  simp only[Option.map_some,Option.some.injEq] at hx
  rw[← hx,hl9]
 refine ⟨g,0,a9,n9,c9,rfl,hg,by rw[Nat.zero_add,hc,hx2],?_,hn9⟩
 rw[hf,List.getElem?_map,List.getElem?_eq_getElem hi3]
 exact hic
end
section
open Go Go.RowKit
attribute [local go_sem] zv
theorem infoRows:(Tryz.prog.info? 22).map (fun i=>(i.zero,i.size,i.bytes))=some (some (.slice none 0 0),1,24):=by kernel_rfl
theorem infoRow:(Tryz.prog.info? 25).map (fun i=>(i.zero,i.size,i.bytes))=some (some (.slice none 0 0),1,24):=by kernel_rfl
theorem lineV_keep {w w':World} {a:Option Addr} {n:Nat} {ls:List (List Int)} (h:RC w a n ls) (hb:Below w.heap.size w w') (i:Nat) (hi:i<n):lineV w' a i=lineV w a i:=by
 obtain ⟨bl,off,_,_,_,e,hl,_⟩:=h.2 i hi
 subst e
 simp only[lineV]
 rw[(zF hb).1 _ _ hl]
theorem cell_one_drew (w:World) (v:Value) (t:TypeId):∀j u,([v]:List Value)[j]?=some u→(w.alloc (.cells #[v] t)).drew.cell? ((⟨w.heap.size,0,none⟩:Addr).add j)=some u:=cell_one_new w v t
theorem owns_drew {w:World} {B:Nat} {e:TypeId} {size:Nat} {v:Value} {n:Nat} {xs:List Value} (h:w.ownsRow B e size v n xs):w.drew.ownsRow B e size v n xs:=h
theorem owns_len {w:World} {B:Nat} {e:TypeId} {v:Value} {n:Nat} {xs:List Value} (h:w.ownsRow B e 1 v n xs):w.ownsRow 0 e 1 v n xs:=zI h (Nat.zero_le _)
theorem searchOf_c (a:Option Addr) (n c:Nat) (ls:List (List Int)) (cells sum:Int) (a':Option Addr) (n' c':Nat) (g:List Int) (w:World) (h:RC w a n ls) (hcap:n≤c) (hnl:n≤1000000) (h':IC w a' n' g) (hm:n'≤256) (hg:∀k:Nat,k<n'→0≤g[k]?.getD 0∧g[k]?.getD 0≤256)
  (hline:∀l,l∈ls→l.length≤1000∧∀x,x∈l→0≤x∧x<(n':Int)) (Old:Nat→Prop) (hOl:∀k,Old k→k<w.heap.size)
  (hOld:Sure Old w (fun w'=>∀i,i<n→∃a9 n9 c9,lineV w a i = .slice a9 n9 c9∧IC w' a9 n9 (ls[i]?.getD [])∧n9≤c9)) :
  Calls Tryz.prog 128 #[.agg #[.int .i64 cells,.slice a n c,.int .i64 sum,.slice a' n' c']] w fun e w'=>∃b Im ao co al cl vf,e = .returned (.pointer (some ⟨b,0,none⟩))∧SR w' b Im ⟨cells,a,n,c,ls,sum,a',n',c',g,ao,co,al,cl⟩ vf (.slice none 0 0) []∧Below w.heap.size w w'∧w.heap.size≤b∧(∀k,vf.ownBlock=some k→w.heap.size≤k)∧(∀k,Im k→Old k∨w.heap.size≤k):=by
 have HLINE:=za hline
 have HOL:=za hOl
 have HOLD:=za hOld
 have HH:=za h
 clear hline hOl hOld
 go_enter Tryz.func128,Tryz.ntmps128
 go_wp2
 have hsz:w.heap.size<(w.alloc (.cells #[.int .i64 cells,.slice a n c,.int .i64 sum,.slice a' n' c'] 27)).heap.size:=by simp
 have hszE:(w.alloc (.cells #[.int .i64 cells,.slice a n c,.int .i64 sum,.slice a' n' c'] 27)).heap.size=w.heap.size+1:=by simp
 have hB:Below w.heap.size w (w.alloc (.cells #[.int .i64 cells,.slice a n c,.int .i64 sum,.slice a' n' c'] 27)):=(Below.refl _ _).alloc (Nat.le_refl _) _
 have x0:(w.alloc (.cells #[.int .i64 cells,.slice a n c,.int .i64 sum,.slice a' n' c'] 27)).cell? ⟨w.heap.size,0,none⟩=some (.int .i64 cells):=(zq w #[.int .i64 cells,.slice a n c,.int .i64 sum,.slice a' n' c'] 27 0).trans rfl
 have x1:(w.alloc (.cells #[.int .i64 cells,.slice a n c,.int .i64 sum,.slice a' n' c'] 27)).cell? ⟨w.heap.size,1,none⟩=some (.slice a n c):=(zq w #[.int .i64 cells,.slice a n c,.int .i64 sum,.slice a' n' c'] 27 1).trans rfl
 have x2:(w.alloc (.cells #[.int .i64 cells,.slice a n c,.int .i64 sum,.slice a' n' c'] 27)).cell? ⟨w.heap.size,2,none⟩=some (.int .i64 sum):=(zq w #[.int .i64 cells,.slice a n c,.int .i64 sum,.slice a' n' c'] 27 2).trans rfl
 have x3:(w.alloc (.cells #[.int .i64 cells,.slice a n c,.int .i64 sum,.slice a' n' c'] 27)).cell? ⟨w.heap.size,3,none⟩=some (.slice a' n' c'):=(zq w #[.int .i64 cells,.slice a n c,.int .i64 sum,.slice a' n' c'] 27 3).trans rfl
 generalize (w.alloc (.cells #[.int .i64 cells,.slice a n c,.int .i64 sum,.slice a' n' c'] 27))=W0 at hsz hszE hB x0 x1 x2 x3 ⊢
 have h0:=h.mono hB
 have h0':=h'.mono hB
 have HO:=za (fun w1 (hb:Below W0.heap.size W0 w1)=>open_c (.slice a n c) cells sum a' n' c' g w1 (h0'.mono hb))
 have HC:=za (fun w1 (hb:Below W0.heap.size W0 w1)=>clone_c a' n' c' g w1 (h0'.mono hb))
 refine zk (fun w'=>∃u,w'=over (W0) u) [8,7] [(0,0),(0,1),(0,3),(0,4),(1,2),(1,5),(0,6),(2,7),(2,8)] (by kernel_rfl) (by kernel_rfl) (by exact ⟨_,zi (by repeat (first|assumption|exact Below.refl _ _|refine zd ?_|refine zg ?_ _|refine zb ?_ (by assumption)))⟩) ?_
 dsimp only[zt,zG]
 repeat (first|(refine zu rfl (fun K hK=>?_);go_big_quiet_op;refine hK _ ?_;clear hK K)|(refine zp rfl rfl (fun K hK=>?_);go_big_quiet_op;refine hK _ ?_;clear hK K)|(refine zE ?_;go_wp2_with (first|(go_at_call 139;refine (HO.out _ (by first|exact zd (Below.refl _ _)|(refine zd ?_;assumption)|assumption)).mono ?_;rintro _ w1 ⟨v1,rfl,hown1,hb1⟩;obtain ⟨a1,c1,rfl⟩:=zr hown1)|(go_at_call 71;refine (HC.out _ (zb (zd (Below.refl _ _)) hb1)).mono ?_;rintro _ w2 ⟨v2,rfl,hown2,hb2⟩;obtain ⟨a2,c2,rfl⟩:=zr hown2));refine ⟨?_,?_⟩;focus (exact ⟨_,zi (by repeat (first|assumption|exact Below.refl _ _|refine zd ?_|refine zg ?_ _|refine zb ?_ (by assumption)))⟩)))
 refine zA _ _ _ rfl ?_
 dsimp only[List.map]
 go_wp2_with (first|(go_at_call 139;refine (HO.out _ (by first|exact zd (Below.refl _ _)|(refine zd ?_;assumption)|assumption)).mono ?_;rintro _ w1 ⟨v1,rfl,hown1,hb1⟩;obtain ⟨a1,c1,rfl⟩:=zr hown1)|(go_at_call 71;refine (HC.out _ (zb (zd (Below.refl _ _)) hb1)).mono ?_;rintro _ w2 ⟨v2,rfl,hown2,hb2⟩;obtain ⟨a2,c2,rfl⟩:=zr hown2))
 refine NoPanic.normal ?_
 have hW2:Below W0.heap.size W0 w2:=zb (zb (zd (Below.refl _ _)) hb1) hb2
 have hbc:=fun i=>zq w2 #[.int .i64 cells,.slice a n c,.int .i64 sum,.slice a' n' c',.slice a1 (zj g).length c1,.int .u64 0,.int .u64 0,.int .u64 0,.int .u64 0,.slice none 0 0,.slice a2 g.length c2,.slice none 0 0] 184 i
 have hfzb:∀i,(w2.alloc (.cells #[.int .i64 cells,.slice a n c,.int .i64 sum,.slice a' n' c',.slice a1 (zj g).length c1,.int .u64 0,.int .u64 0,.int .u64 0,.int .u64 0,.slice none 0 0,.slice a2 g.length c2,.slice none 0 0] 184)).frozen? ⟨w2.heap.size,i,none⟩=false:=fun i=>by simp
 have hbw:Below w2.heap.size w2 (w2.alloc (.cells #[.int .i64 cells,.slice a n c,.int .i64 sum,.slice a' n' c',.slice a1 (zj g).length c1,.int .u64 0,.int .u64 0,.int .u64 0,.int .u64 0,.slice none 0 0,.slice a2 g.length c2,.slice none 0 0] 184)):=(Below.refl _ _).alloc (Nat.le_refl _) _
 have hszw:w2.heap.size<(w2.alloc (.cells #[.int .i64 cells,.slice a n c,.int .i64 sum,.slice a' n' c',.slice a1 (zj g).length c1,.int .u64 0,.int .u64 0,.int .u64 0,.int .u64 0,.slice none 0 0,.slice a2 g.length c2,.slice none 0 0] 184)).heap.size:=by simp
 generalize (w2.alloc (.cells #[.int .i64 cells,.slice a n c,.int .i64 sum,.slice a' n' c',.slice a1 (zj g).length c1,.int .u64 0,.int .u64 0,.int .u64 0,.int .u64 0,.slice none 0 0,.slice a2 g.length c2,.slice none 0 0] 184))=W3 at hbc hfzb hbw hszw ⊢
 obtain ⟨b,hb⟩:∃b,b=w2.heap.size:=⟨_,rfl⟩
 rw[← hb] at hbc hfzb hszw ⊢
 have HBE:=za hb
 clear hb
 have hB3:Below W0.heap.size W0 W3:=zb hW2 hbw
 have HBC:=za hbc
 have HFZ:=za hfzb
 clear hbc hfzb
 have y0:=((zF hB3).1 _ _ hsz).trans x0
 have y1:=((zF hB3).1 _ _ hsz).trans x1
 have y2:=((zF hB3).1 _ _ hsz).trans x2
 have y3:=((zF hB3).1 _ _ hsz).trans x3
 have HU:=za (qX (.slice a n c) cells sum a' n' c' g W3 (h0'.mono hB3) hm hg)
 clear x0 x1 x2 x3 HO HC
 go_wp2_with (go_at_call 73;refine HU.out.mono ?_;rintro _ W4 ⟨v4,rfl,hown4,hb4⟩;obtain ⟨a4,c4,rfl⟩:=zr hown4)
 have hb4l:b<W4.heap.size:=Nat.lt_of_lt_of_le hszw hb4.size
 have HC4:Hid (∀i,W4.cell? ⟨b,i,none⟩=#[Value.int .i64 cells,.slice a n c,.int .i64 sum,.slice a' n' c',.slice a1 (zj g).length c1,.int .u64 0,.int .u64 0,.int .u64 0,.int .u64 0,.slice none 0 0,.slice a2 g.length c2,.slice none 0 0][i]?):=fun i=>((zF hb4).1 _ _ hszw).trans (HBC.out i)
 have HF4:Hid (∀i,W4.frozen? ⟨b,i,none⟩=false):=fun i=>((zF hb4).2 _ _ hszw).trans (HFZ.out i)
 have hU:∀x,x∈zh g→1≤x∧x≤256:=fun x hx=>by
  have:=zT.1 hx
  have:=h0'.len
  omega
 have hul:(zh g).length≤256:=by
  have:=jd g g.length
  have:=h0'.len
  unfold zh;omega
 have HUN:=za hU
 clear hU
 have a3:=HC4.out 10
 go_loopw [5,22] (fun _ i wr=>∃k:Nat,k≤(zh g).length∧i = .int .i64 k∧SetC wr b 5 (zZ ((zh g).take k))∧Stays (fun j=>j=b) W4 wr∧Hid (∀i,i<5∨9≤i→wr.cell? ⟨b,i,none⟩=W4.cell? ⟨b,i,none⟩)∧Hid (∀i,wr.frozen? ⟨b,i,none⟩=false)) (fun _ i _=>(zh g).length - (intOf i).toNat)
 case atStart =>
  refine ⟨0,by omega,rfl,fun q hq=>?_,Stays.refl _ _,fun _ _=>rfl,HF4.out⟩
  have e:ze (zZ ((zh g).take 0)) q=0:=by simp[zZ,ze]
  rw[e,HC4.out]
  match q,hq with
  | 0,_=>rfl
  | 1,_=>rfl
  | 2,_=>rfl
  | 3,_=>rfl
 case round =>
  obtain ⟨k,hk,rfl,hset,hst,hce,hfz⟩:=hrel
  have hbl:b<wr.heap.size:=Nat.lt_of_lt_of_le hb4l hst.size
  by_cases hlt:k<(zh g).length
  ·have hic:=(IC.of_owns (zw hown4 (fun j e hjl=>hst.block j hjl (fun e2=>by have:=(hown4.lt j e).1;omega))) (by omega)).1
   obtain ⟨bu,off,rfl,hbu,hc⟩:=hic.2 k hlt
   have hx:=HUN.out ((zh g)[k]?.getD 0) (by rw[List.getElem?_eq_getElem hlt];exact List.getElem_mem hlt)
   have htk:(zh g).take (k+1)=(zh g).take k++[(zh g)[k]?.getD 0]:=zP _ _ _ hlt
   generalize (zh g)[k]?.getD 0=x at hx hc htk
   have HP:=za (sput_c b 5 (zZ ((zh g).take k)) x wr hset hx.1 hx.2 hbl (fun q _=>hfz.out _))
   go_wp2_with (go_at_call 146;refine HP.out.mono ?_;rintro _ w5 ⟨rfl,hp5⟩)
   go_roundw
   case rel =>
    refine ⟨k+1,by omega,by go_num,?_,hst.trans hp5.stays (fun i e => .inl e),fun i hi=>(hp5.cell i (by omega)).trans (hce.out i hi),fun i=>(hp5.frozen _).trans (hfz.out i)⟩
    rw[htk,maskL_snoc,if_pos (by omega)]
    exact PutW.set hset hp5
   case measure=>simp[intOf];omega
  ·have e:k=(zh g).length:=by omega
   subst e
   rw[List.take_length] at hset
   obtain ⟨W5,h5⟩:∃W5:World,W5=wr:=⟨_,rfl⟩
   rw[← h5] at hset hst hce hfz hbl
   subst h5
   have hB4:Below W0.heap.size W0 W4:=zb hB3 hb4
   have hbW:W0.heap.size≤b:=by have h1:=hW2.size;have h2:=HBE.out;omega
   have hB5:Below W0.heap.size W0 W5:=hB4.trans (Stays.below hst hB4.size (fun k e=>by omega))
   have z1:=((zF hB5).1 _ _ hsz).trans (((zF hB3).1 _ _ hsz).symm.trans y1)
   have z4:W5.cell? ⟨b,4,none⟩=some (.slice a1 (zj g).length c1):=(hce.out 4 (by omega)).trans (HC4.out 4)
   have z9:W5.cell? ⟨b,9,none⟩=some (.slice none 0 0):=(hce.out 9 (by omega)).trans (HC4.out 9)
   have zf:=hfz.out 9
   have hol:(zj g).length≤256:=by
    have:=jA g g.length
    have:=h0'.len
    unfold zj;omega
   clear y0 y1 y2 y3 a3
   obtain ⟨i2,hi,hz0,hz1,hz2⟩:=info_parts infoRows
   go_wp2_with (refine wpList_make_full _ rfl _ _ 155 rfl W5.heap.size 22 i2 (.slice none 0 0) 1 Tryz.underlying155 hi hz0 hz1 _ _ _ _ ((zj g).length+1) rfl rfl (by simp) (by simp) (by rw[hz2];omega) (by unfold maxLen;omega) (Nat.le_refl _) ?_)
   intro W6 hown6 hgr6
   have hs6:Stays (fun _=>False) W5 W6:=Stays.grown hgr6 (fun k e=>by cases e)
   have hbf:¬(fun _:Nat=>False) b:=id
   have hb6:b<W6.heap.size:=Nat.lt_of_lt_of_le hbl hs6.size
   have u9:W6.cell? ⟨b,9,none⟩=some (.slice none 0 0):=(hs6.cell hbl hbf).trans z9
   have uf:W6.frozen? ⟨b,9,none⟩=false:=(hs6.frozen hbl hbf).trans zf
   have hl5:w.heap.size<W5.heap.size:=Nat.lt_of_lt_of_le hsz hB5.size
   have hne9:(⟨b,9,none⟩:Addr)≠⟨w.heap.size,1,none⟩:=fun e=>by simp only[Addr.mk.injEq,and_true] at e;omega
   have u1:(W6.setCell ⟨b,9,none⟩ (.slice (some ⟨W5.heap.size,0,none⟩) ((zj g).length+1) ((zj g).length+1))).cell? ⟨w.heap.size,1,none⟩=some (.slice a n c):=(World.cell?_setCell_other _ _ _ _ hne9).trans ((hs6.cell hl5 id).trans z1)
   clear z1 z4 z9 zf
   obtain ⟨W7,h7⟩:∃W7,W7=W6.setCell ⟨b,9,none⟩ (.slice (some ⟨W5.heap.size,0,none⟩) ((zj g).length+1) ((zj g).length+1)):=⟨_,rfl⟩
   have HW7:=za h7
   clear h7
   go_wp2
   rw[← HW7.out] at u1 ⊢
   -- the table,all rows empty
   obtain ⟨al,hal⟩:∃al,al=W5.heap.size:=⟨_,rfl⟩
   have hs7:Stays (fun k=>k=b) W6 W7:=by rw[HW7.out];exact Stays.setCell (S:=fun k=>k=b) W6 (p:=⟨b,9,none⟩) rfl _
   have hz7:W7.heap.size=W6.heap.size:=by rw[HW7.out];simp[World.setCell]
   have hal6:al<W6.heap.size:=by rw[hal];exact (hown6.lt _ rfl).2
   have hbal:¬al=b:=by omega
   have hT7:TB W7 al ((zj g).length+1) W7.heap.size (fun _=>[]) (fun _ => .slice none 0 0):=by
    have hrow:∀k,k<(zj g).length+1→W6.cell? ⟨al,k,none⟩=some (.slice none 0 0)∧W6.frozen? ⟨al,k,none⟩=false:=fun k hk=>by
     obtain ⟨g6,cap6,x6,e6,hx6,hc6,hf6,_,_⟩:=jq (owns_len hown6) k hk
     simp only[Value.slice.injEq,Option.some.injEq,Addr.mk.injEq,and_true] at e6
     obtain ⟨rfl,_⟩:=e6
     rw[hal]
     refine ⟨?_,hf6⟩
     rw[hc6,← hx6]
     simp[madeCells,hk,Nat.mod_one]
    exact ⟨by omega,fun k hk=>(hs7.frozen hal6 hbal).trans (hrow k hk).2,fun k hk=>(hs7.cell hal6 hbal).trans (hrow k hk).1,fun k _=>World.ownsRow_nil _ _ _ _,fun _ _ _ _ _ _ e=>by cases e⟩
   have hc7:Hid (∀i,i≠9→W7.cell? ⟨b,i,none⟩=W5.cell? ⟨b,i,none⟩):=fun i hi=>by
    rw[HW7.out]
    exact (World.cell?_setCell_other _ _ _ _ (fun e=>by simp only[Addr.mk.injEq,true_and,and_true] at e;exact hi e.symm)).trans (hs6.cell hbl id)
   have v9:W7.cell? ⟨b,9,none⟩=some (.slice (some ⟨al,0,none⟩) ((zj g).length+1) ((zj g).length+1)):=by
    rw[HW7.out,hal];exact World.cell?_setCell_same _ _ _ u9
   have v4:W7.cell? ⟨b,4,none⟩=some (.slice a1 (zj g).length c1):=(hc7.out 4 (by omega)).trans ((hce.out 4 (by omega)).trans (HC4.out 4))
   -- the open cells still read as they did
   have hsb:Stays (fun k=>k=b) w1 W7:=(((((Below.stays hb2 _).trans (Below.stays hbw (fun k=>k=b)) (fun i e => .inl e)).trans (Below.stays hb4 (fun k=>k=b)) (fun i e => .inl e)).trans hst (fun i e => .inl e)).trans (hs6.mono (fun i e=>e.elim)) (fun i e => .inl e)).trans hs7 (fun i e => .inl e)
   have hb1l:w1.heap.size≤b:=by have h1:=hb2.size;have h2:=HBE.out;omega
   have hO7:W7.ownsRow 0 3 1 (.slice a1 (zj g).length c1) (zj g).length ((zj g).map (Value.int .i64)):=zI (zw hown1 (fun k e hlt=>hsb.block k hlt (fun e2=>by omega))) (Nat.zero_le _)
   have hR7:RC W7 a n ls:=h0.mono (hB5.trans ((Stays.below hs6 hB5.size (fun k e=>e.elim)).trans (Stays.below hs7 (by have h1:=hB5.size;have h2:=hs6.size;omega) (fun k e=>by omega))))
   have hB7:Below W0.heap.size W0 W7:=hB5.trans ((Stays.below hs6 hB5.size (fun k e=>e.elim)).trans (Stays.below hs7 (by have h1:=hB5.size;have h2:=hs6.size;omega) (fun k e=>by omega)))
   have halW:W0.heap.size≤al:=by have h1:=hB5.size;omega
   have hal7:al<W7.heap.size:=by omega
   have hb7:b<W7.heap.size:=by omega
   have hO1:∀k,(Value.slice a1 (zj g).length c1).ownBlock=some k→k<al:=fun k e=>by
    have h1:=(hown1.lt k e).2
    have h2:=hst.size
    omega
   have HO1:=za hO1
   obtain ⟨lv,hlv⟩:∃lv,lv=lineV W7 a:=⟨_,rfl⟩
   have HLV:=za hlv
   have HT7:=za hT7
   have hF7:W7.ownsRow w1.heap.size 3 1 (.slice a2 g.length c2) g.length (g.map (Value.int .i64)):=zw hown2 (fun k e hlt=>(((((Below.stays hbw (fun k=>k=b)).trans (Below.stays hb4 (fun k=>k=b)) (fun i e => .inl e)).trans hst (fun i e => .inl e)).trans (hs6.mono (fun i e=>e.elim)) (fun i e => .inl e)).trans hs7 (fun i e => .inl e)).block k hlt (fun e2=>by have h2:=HBE.out;omega))
   have hset7:SetC W7 b 5 (zZ (zh g)):=fun q hq=>(hc7.out _ (by omega)).trans (hset q hq)
   have hfz7:Hid (∀i,W7.frozen? ⟨b,i,none⟩=false):=fun i=>(World.frozen?_of_block (show W7.heap[b]?=_ from rfl)).trans (by rw[HW7.out,World.frozen?_setCell];exact (hs6.frozen hbl id).trans (hfz.out i))
   have hcl7:Hid (∀i,i≠9→(i<5∨9≤i)→W7.cell? ⟨b,i,none⟩=#[Value.int .i64 cells,.slice a n c,.int .i64 sum,.slice a' n' c',.slice a1 (zj g).length c1,.int .u64 0,.int .u64 0,.int .u64 0,.int .u64 0,.slice none 0 0,.slice a2 g.length c2,.slice none 0 0][i]?):=fun i h1 h2=>(hc7.out i h1).trans ((hce.out i h2).trans (HC4.out i))
   have hbal2:b<al:=by omega
   have hw1s:W0.heap.size≤w1.heap.size:=hb1.size
   have hown1b:=hown1.lt
   have HO1B:=za hown1b
   have HSET7:=za hset7
   clear hown1b hset7
   clear hal hlv hT7 hO1 u1 u9 uf hs6 hs7 hgr6 hown6 hown1 hown4 hb1 hb4 hset HUN HU h h' hsb
   go_loopw [7,8,9,10,46] (fun _ _ _ _ i wr=>∃j:Nat,j≤n∧i = .int .i64 j∧Hid (∃vs,TB wr al ((zj g).length+1) W7.heap.size (jT (zj g) ls lv j) vs)∧Stays (fun k=>k=al) W7 wr) (fun _ _ _ _ i _=>n - (intOf i).toNat)
   case atStart=>exact ⟨0,by omega,rfl,⟨_,HT7.out⟩,Stays.refl _ _⟩
   case round =>
    obtain ⟨j,hj,rfl,htb,hs8⟩:=hrel
    have hbr:Below W0.heap.size W0 wr:=hB7.trans (Stays.below hs8 hB7.size (fun k e=>by omega))
    have hblr:b<wr.heap.size:=Nat.lt_of_lt_of_le hb7 hs8.size
    have w4:=(hs8.cell hb7 (fun e=>hbal e.symm)).trans v4
    have w9:=(hs8.cell hb7 (fun e=>hbal e.symm)).trans v9
    have hOr:IC wr a1 (zj g).length (zj g):=(IC.of_owns (zw hO7 (fun k e hlt=>hs8.block k hlt (fun e2=>by have:=HO1.out k e;omega))) (by omega)).1
    by_cases hlt:j<n
    ·obtain ⟨bl,off,a9,n9,c9,ha,hbl9,hc9,hic,hn9⟩:=(h0.mono hbr).2 j hlt
     subst ha
     obtain ⟨wo,ho⟩:∃wo:World,wo=wr:=⟨_,rfl⟩
     rw[← ho] at htb hs8 hbr hblr w4 w9 hOr hbl9 hc9 hic
     subst ho
     have hcr:(lineV W7 (some ⟨bl,off,none⟩) j) = .slice a9 n9 c9:=by
      obtain ⟨bl2,off2,_,_,_,e2,hl2,hc2,_⟩:=hR7.2 j hlt
      simp only[Option.some.injEq,Addr.mk.injEq,and_true] at e2
      obtain ⟨rfl,rfl⟩:=e2
      have h3:wo.cell? ⟨bl,off+j,none⟩=W7.cell? ⟨bl,off+j,none⟩:=by
       obtain ⟨bl3,off3,_,_,_,e3,hl3,_⟩:=h0.2 j hlt
       simp only[Option.some.injEq,Addr.mk.injEq,and_true] at e3
       obtain ⟨rfl,rfl⟩:=e3
       exact ((zF hbr).1 _ _ hl3).trans ((zF hB7).1 _ _ hl3).symm
      simp only[lineV]
      rw[← h3,hc9]
      rfl
     have HCR:=za hcr
     clear hcr
     go_wp2
     go_loop [8,9,10,55] (fun n8 _ _ i=>∃k:Nat,k≤(zj g).length∧i = .int .i64 k∧n8 = .int .i64 ((lastTo (zj g) (ls[j]?.getD []) k:Nat):Int)) (fun _ _ _ i=>(zj g).length - (intOf i).toNat)
     case atStart=>exact ⟨0,by omega,rfl,rfl⟩
     case round =>
      obtain ⟨k,hk,rfl,rfl⟩:=hrel
      by_cases hlt2:k<(zj g).length
      ·obtain ⟨bo,offo,rfl,hbo,hco⟩:=hOr.2 k hlt2
       have HCO:=za (jw a9 n9 c9 (ls[j]?.getD []) ((zj g)[k]?.getD 0) wo hic)
       have HLS:=za (lastTo_succ (zj g) (ls[j]?.getD []) k)
       generalize (zj g)[k]?.getD 0=x at hco HCO HLS
       by_cases hx:zY (ls[j]?.getD []) x=true
       ·rw[hx] at HCO HLS
        go_wp2_with (go_at_call 134;refine HCO.out.mono ?_;rintro _ w9 ⟨rfl,rfl⟩)
        go_round
        case rel=>exact ⟨k+1,by omega,by go_num,by rw[HLS.out];simp⟩
        case measure=>simp[intOf];omega
       ·have hx':zY (ls[j]?.getD []) x=false:=by simpa using hx
        rw[hx'] at HCO HLS
        go_wp2_with (go_at_call 134;refine HCO.out.mono ?_;rintro _ w9 ⟨rfl,rfl⟩)
        go_round
        case rel=>exact ⟨k+1,by omega,by go_num,by rw[HLS.out];simp⟩
        case measure=>simp[intOf];omega
      ·have e:k=(zj g).length:=by omega
       have hnle:=lastTo_le (zj g) (ls[j]?.getD []) (zj g).length
       have hll:qU (zj g) (ls[j]?.getD [])=lastTo (zj g) (ls[j]?.getD []) k:=by rw[e];rfl
       rw[← e] at hnle
       obtain ⟨nn,hnn⟩:∃nn,nn=lastTo (zj g) (ls[j]?.getD []) k:=⟨_,rfl⟩
       rw[← hnn] at hll hnle
       rw[← hnn]
       clear hnn
       obtain ⟨vs,htv⟩:=htb.out
       have hnm:nn<(zj g).length+1:=by omega
       obtain ⟨ar,cr,hvn⟩:=zr (htv.own nn hnm)
       have hown9:=owns_len (htv.own nn hnm)
       have hcn:=htv.cell nn hnm
       rw[hvn] at hown9 hcn
       have hrl:(jT (zj g) ls lv j nn).length≤1000000:=by
        have h1:=List.length_filter_le (fun i=>qU (zj g) (ls[i]?.getD [])==nn) (List.range j)
        simp only[jT,List.length_map]
        simp only[List.length_range] at h1
        omega
       have hBt:W7.heap.size≤wo.heap.size:=hs8.size
       have hcs:=cutW_size hBt
       have hcb:=cutW_below hBt
       have g9:=(cutW_cell hBt (o:=9) hb7).trans w9
       have gn:=(cutW_cell hBt (o:=nn) hal7).trans hcn
       have hbS:b<(cutW wo W7.heap.size).heap.size:=by omega
       have haS:al<(cutW wo W7.heap.size).heap.size:=by omega
       generalize (cutW wo W7.heap.size)=S at hcs hcb g9 gn hbS haS
       have hn1:(nn:Int)<(((zj g).length+1:Nat):Int):=by omega
       have hn2:(0:Int)≤(nn:Int):=by omega
       have hfzn:=htv.fz nn hnm
       have HFZN:=za hfzn
       have HCS:=za hcs
       have HTV:=za htv
       have HVN:=za hvn
       clear hcs htv hvn hfzn
       obtain ⟨i2,hi,hz0,hz1,hz2⟩:=info_parts infoRow
       go_wp2
       clear hcn
       refine zk (fun w'=>∃u,w'=over (S) u) [16] [(0,0),(0,1),(0,2),(0,3),(0,4),(0,5),(0,6),(0,7),(0,8),(0,9),(0,10),(0,11),(0,12),(1,13),(1,14),(0,15),(2,16)] (by kernel_rfl) (by kernel_rfl) (by exact ⟨_,zi (by repeat (first|assumption|exact Below.refl _ _|refine zd ?_|refine zg ?_ _|refine zb ?_ (by assumption)))⟩) ?_
       dsimp only[zt,zG]
       repeat (first|(refine zu rfl (fun K hK=>?_);go_big_quiet_op;refine hK _ ?_;clear hK K)|(refine zp rfl rfl (fun K hK=>?_);go_big_quiet_op;refine hK _ ?_;clear hK K)|(refine zE ?_;go_wp2_with ((at_builtin;refine zW _ rfl _ _ 22 rfl 25 i2 (.slice none 0 0) 1 24 Tryz.underlying22 hi hz0 hz1 hz2 rfl (by decide) _ _ _ rfl (owns_drew (hown9.alloc _)) ⟨wo.heap.size,0,none⟩ 1 1 [.slice a9 n9 c9] rfl rfl (cell_one_drew _ _ _) (by simp[Value.oneCell']) (by unfold maxLen;omega) (by omega) ?_;intro v' w9 hown' hgrow hnew;obtain ⟨av,cv,rfl⟩:=zr hown';have hst9:Stays (fun k=>(Value.slice ar (jT (zj g) ls lv j nn).length cr).ownBlock=some k) wo w9:=(Below.stays ((Below.refl _ wo).alloc (Nat.le_refl _) (.cells #[.slice a9 n9 c9] 25)).drew _).trans (Stays.grown (S:=fun k=>(Value.slice ar (jT (zj g) ls lv j nn).length cr).ownBlock=some k) hgrow (fun k e=>e)) (fun i e => .inl e);have hbS9:Below S.heap.size S w9:=hcb.trans (hst9.below (by have h1:=HCS.out;omega) (fun k e=>by have h1:=HCS.out;have h2:=HVN.out;have h3:=(HTV.out.own nn hnm).lt k (by rw[h2];exact e);omega));have hna:¬(Value.slice ar (jT (zj g) ls lv j nn).length cr).ownBlock=some al:=(fun e=>by have h1:=HCS.out;have h2:=HVN.out;have h3:=(HTV.out.own nn hnm).lt al (by rw[h2];exact e);omega);have q1:=(hst9.cell (o:=nn) HTV.out.lt hna).trans (HTV.out.cell nn hnm);have q2:=(hst9.frozen (o:=nn) HTV.out.lt hna).trans HFZN.out;rw[HVN.out] at q1));refine ⟨?_,?_⟩;focus (exact ⟨_,zi (by repeat (first|assumption|exact Below.refl _ _|refine zd ?_|refine zg ?_ _|refine zb ?_ (by assumption)))⟩)))
       refine zA _ _ _ rfl ?_
       dsimp only[List.map]
       go_wp2_with ((at_builtin;refine zW _ rfl _ _ 22 rfl 25 i2 (.slice none 0 0) 1 24 Tryz.underlying22 hi hz0 hz1 hz2 rfl (by decide) _ _ _ rfl (owns_drew (hown9.alloc _)) ⟨wo.heap.size,0,none⟩ 1 1 [.slice a9 n9 c9] rfl rfl (cell_one_drew _ _ _) (by simp[Value.oneCell']) (by unfold maxLen;omega) (by omega) ?_;intro v' w9 hown' hgrow hnew;obtain ⟨av,cv,rfl⟩:=zr hown';have hst9:Stays (fun k=>(Value.slice ar (jT (zj g) ls lv j nn).length cr).ownBlock=some k) wo w9:=(Below.stays ((Below.refl _ wo).alloc (Nat.le_refl _) (.cells #[.slice a9 n9 c9] 25)).drew _).trans (Stays.grown (S:=fun k=>(Value.slice ar (jT (zj g) ls lv j nn).length cr).ownBlock=some k) hgrow (fun k e=>e)) (fun i e => .inl e);have hbS9:Below S.heap.size S w9:=hcb.trans (hst9.below (by have h1:=HCS.out;omega) (fun k e=>by have h1:=HCS.out;have h2:=HVN.out;have h3:=(HTV.out.own nn hnm).lt k (by rw[h2];exact e);omega));have hna:¬(Value.slice ar (jT (zj g) ls lv j nn).length cr).ownBlock=some al:=(fun e=>by have h1:=HCS.out;have h2:=HVN.out;have h3:=(HTV.out.own nn hnm).lt al (by rw[h2];exact e);omega);have q1:=(hst9.cell (o:=nn) HTV.out.lt hna).trans (HTV.out.cell nn hnm);have q2:=(hst9.frozen (o:=nn) HTV.out.lt hna).trans HFZN.out;rw[HVN.out] at q1))
       refine NoPanic.normal ?_
       have hadd:=TB.add HTV.out hal7 hBt hnm (v' := .slice av ((jT (zj g) ls lv j nn).length+1) cv) (l := .slice a9 n9 c9) (w2:=w9) (by rw[HVN.out];exact hst9) hown' (fun k e=>by rw[HVN.out];exact (hnew k e).imp id (fun h=>by simp at h;omega))
       have hrw:jT (zj g) ls lv (j+1)=fun k=>if k=nn then jT (zj g) ls lv j nn++[.slice a9 n9 c9] else jT (zj g) ls lv j k:=by
        rw[rowsTo_succ,hll]
        have:lv j = .slice a9 n9 c9:=by rw[HLV.out];exact HCR.out
        rw[this]
       rw[← hrw] at hadd
       have hs9':Stays (fun k=>k=al) W7 (w9.setCell ⟨al,nn,none⟩ (.slice av ((jT (zj g) ls lv j nn).length+1) cv)):=(hs8.trans hst9 (fun i e => .inr (by have h2:=HVN.out;exact ((HTV.out.own nn hnm).lt i (by rw[h2];exact e)).1))).trans (Stays.setCell (S:=fun k=>k=al) w9 (p:=⟨al,nn,none⟩) rfl _) (fun i e => .inl e)
       have HADD:=za hadd
       have HS9:=za hs9'
       clear hadd hs9' hrw q1 q2
       go_wp2
       go_roundw
       case rel=>exact ⟨j+1,by omega,by go_num,⟨_,HADD.out⟩,HS9.out⟩
       case measure=>simp[intOf];omega
    ·have e:j=n:=by omega
     subst e
     go_wp2
     go_ret
     obtain ⟨vs,htv⟩:=htb.out
     have h2:=HBE.out
     have hb1l':=hb1l
     have hgl:=h0'.len
     have hW0:=hB7.size
     have hwr:Below w.heap.size w wr:=hB.trans (hbr.mono (by omega))
     have hw7:Below w.heap.size w W7:=hB.trans (hB7.mono (by omega))
     have hF8:wr.ownsRow w1.heap.size 3 1 (.slice a2 g.length c2) g.length (g.map (Value.int .i64)):=zw hF7 (fun k e hlt=>hs8.block k hlt (fun e3=>by have h3:=(hown2.lt k e).2;omega))
     have hO8:wr.ownsRow 0 3 1 (.slice a1 (zj g).length c1) (zj g).length ((zj g).map (Value.int .i64)):=zw hO7 (fun k e hlt=>hs8.block k hlt (fun e2=>by have:=HO1.out k e;omega))
     have ha2:∀k,(Value.slice a2 g.length c2).ownBlock=some k→w1.heap.size≤k∧k<b:=fun k e=>by have h3:=hown2.lt k e;omega
     have ha1:∀k,(Value.slice a1 (zj g).length c1).ownBlock=some k→W0.heap.size≤k∧k<w1.heap.size:=fun k e=>HO1B.out k e
     have hcr:∀i,wr.cell? ⟨b,i,none⟩=W7.cell? ⟨b,i,none⟩:=fun i=>hs8.cell hb7 (fun e=>hbal e.symm)
     have hcc:∀i,i≠9→(i<5∨9≤i)→wr.cell? ⟨b,i,none⟩=_:=fun i h1 h2=>(hcr i).trans (hcl7.out i h1 h2)
     refine ⟨b,fun k=>Old k∨(W0.heap.size≤k∧k<wr.heap.size∧k≠b∧(Value.slice a2 g.length c2).ownBlock≠some k),a1,c1,al,(zj g).length+1,.slice a2 g.length c2,rfl,?_,hwr,by omega,fun k e=>by have h3:=ha2 k e;have h4:=hW2.size;omega,fun k e=>e.imp id (fun e=>by have h3:=e.1;omega)⟩
     have hfP:jc ⟨cells,a,j,c,ls,sum,a',n',c',g,a1,c1,al,(zj g).length+1⟩ []=g:=by simp[jc]
     have hlP:jg ⟨cells,a,j,c,ls,sum,a',n',c',g,a1,c1,al,(zj g).length+1⟩ []=zh g:=by simp[jg,zY]
     refine { fine:=⟨hgl,hm,fun k=>?_,HLINE.out⟩,ok:=⟨Nat.zero_le _,fun x hx=>absurd hx (by simp),List.nodup_nil⟩,imLt:=fun k e=>?_,sure:=?_,lt:=hblr,nb:=?_,nf:=fun k e=>?_,np:=fun k e=>(by cases e),f:=?_,p:=World.ownsRow_nil _ _ _ _,c0:=hcc 0 (by omega) (by omega),c1:=hcc 1 (by omega) (by omega),c2:=hcc 2 (by omega) (by omega),c3:=hcc 3 (by omega) (by omega),c4:=hcc 4 (by omega) (by omega),set:=?_,c9:=(hcr 9).trans v9,c10:=hcc 10 (by omega) (by omega),c11:=hcc 11 (by omega) (by omega),fz:=fun i _=>(hs8.frozen hb7 (fun e=>hbal e.symm)).trans (hfz7.out i) }
     ·by_cases hk:k<n'
      ·exact hg k hk
      ·show 0≤g[k]?.getD 0∧g[k]?.getD 0≤256
       rw[List.getElem?_eq_none (by omega)];decide
     ·rcases e with e|e
      ·exact Nat.lt_of_lt_of_le (HOL.out k e) hwr.size
      ·exact e.2.1
     ·intro w' hs' hag
      have hagO:∀k,Old k→w'.heap[k]?=w.heap[k]?:=fun k e=>(hag k (.inl e)).trans (hwr.block k (HOL.out k e))
      have hO9:=zw hO8 (fun k e hlt=>hag k (.inr ⟨(ha1 k e).1,hlt,by have h3:=ha1 k e;omega,fun e2=>by have h3:=ha1 k e;have h4:=ha2 k e2;omega⟩))
      refine ⟨(IC.of_owns hO9 (by omega)).1,(IC.of_owns hO9 (by omega)).2,fun k hk=>?_⟩
      have hk':k<(zj g).length+1:=Nat.lt_succ_of_le hk
      have hala:(Value.slice a2 g.length c2).ownBlock≠some al:=fun e=>by have h3:=ha2 al e;omega
      have hcell:w'.cell? ⟨al,k,none⟩=some (vs k):=(World.cell?_of_block (hag al (.inr ⟨halW,htv.lt,hbal,hala⟩))).trans (htv.cell k hk')
      obtain ⟨ar,cr,hvk⟩:=zr (htv.own k hk')
      have hrow:=zw (w':=w') (htv.own k hk') (fun x e hlt=>hag x (.inr ⟨by have h3:=(htv.own k hk').lt x e;omega,hlt,by have h3:=(htv.own k hk').lt x e;omega,fun e2=>by have h3:=(htv.own k hk').lt x e;have h4:=ha2 x e2;omega⟩))
      rw[hvk] at hcell hrow
      rw[HLV.out] at hrow hcell
      have hrr:=row_rc (ls:=ls) (O:=zj g) (k:=k) (w0:=W7) h0.len (by omega) (fun i hi=>by
       obtain ⟨a9,n9,c9,e9,h9⟩:=HOLD.out w' (Nat.le_trans hwr.size hs') hagO i hi
       exact ⟨a9,n9,c9,(lineV_keep HH.out hw7 i hi).trans e9,h9⟩) hrow
      exact ⟨ar,_,cr,hcell,Nat.lt_of_lt_of_le htv.lt hs',hrr.1,hrr.2⟩
     ·rintro (e|e)
      ·have h3:=HOL.out b e;omega
      ·exact e.2.2.1 rfl
     ·have h3:=ha2 k e
      refine ⟨?_,by omega⟩
      rintro (e2|e2)
      ·have h4:=HOL.out k e2;omega
      ·exact e2.2.2.2 e
     ·rw[hfP];exact owns_len hF8
     ·rw[hlP];exact fun q hq=>(hcr _).trans (HSET7.out q hq)
end
section
open Go Go.RowKit
attribute [local go_sem] zv
def solV (bx:Nat):Value := .func (.func 193) #[] #[.pointer (some ⟨bx,0,none⟩)]
theorem solutions_c (b:Nat) (w:World) :
  Calls Tryz.prog 129 #[.pointer (some ⟨b,0,none⟩)] w fun e w'=>e = .returned (solV w.heap.size)∧w'=w.alloc (.cells #[.pointer (some ⟨b,0,none⟩)] 181):=by
 go_enter Tryz.func129,Tryz.ntmps129
 go_wp2
 go_ret
 exact ⟨rfl,rfl⟩
theorem all_c (a:Option Addr) (n c:Nat) (ls:List (List Int)) (cells sum:Int) (a':Option Addr) (n' c':Nat) (g:List Int) (w:World) (h:RC w a n ls) (hcap:n≤c) (hnl:n≤1000000) (h':IC w a' n' g) (hm:n'≤256) (hg:∀k:Nat,k<n'→0≤g[k]?.getD 0∧g[k]?.getD 0≤256)
  (hline:∀l,l∈ls→l.length≤1000∧∀x,x∈l→0≤x∧x<(n':Int)) (Old:Nat→Prop) (hOl:∀k,Old k→k<w.heap.size)
  (hOld:Sure Old w (fun w'=>∀i,i<n→∃a9 n9 c9,lineV w a i = .slice a9 n9 c9∧IC w' a9 n9 (ls[i]?.getD [])∧n9≤c9)) :
  Calls Tryz.prog 64 #[.agg #[.int .i64 cells,.slice a n c,.int .i64 sum,.slice a' n' c']] w fun e w'=>∃bx b Im ao co al cl vf,e = .returned (solV bx)∧w.heap.size≤bx∧bx<w'.heap.size∧bx≠b∧vf.ownBlock≠some bx∧¬Im bx∧w'.cell? ⟨bx,0,none⟩=some (.pointer (some ⟨b,0,none⟩))∧SR w' b Im ⟨cells,a,n,c,ls,sum,a',n',c',g,ao,co,al,cl⟩ vf (.slice none 0 0) []∧Below w.heap.size w w'∧w.heap.size≤b∧(∀k,vf.ownBlock=some k→w.heap.size≤k)∧(∀k,Im k→Old k∨w.heap.size≤k):=by
 have hB:Below w.heap.size w (w.alloc (.cells #[.int .i64 cells,.slice a n c,.int .i64 sum,.slice a' n' c'] 27)):=(Below.refl _ _).alloc (Nat.le_refl _) _
 have HS:=za (searchOf_c a n c ls cells sum a' n' c' g _ (h.mono hB) hcap hnl (h'.mono hB) hm hg hline Old (fun k e=>by have:=hOl k e;simp;omega) (fun w' hs hb i hi=>by
  rw[lineV_keep h hB i hi]
  exact hOld w' (Nat.le_trans hB.size hs) (fun k e=>(hb k e).trans (hB.block k (hOl k e))) i hi))
 clear hOld hline hOl h h' hg
 go_enter Tryz.func64,Tryz.ntmps64
 go_wp2_with (first|(go_at_call 128;refine HS.out.mono ?_;rintro _ w1 ⟨b,Im,ao,co,al,cl,vf,rfl,hsr,hb1,hb2,hb3,hb4⟩)|(go_at_call 129;refine (solutions_c b w1).mono ?_;rintro _ w2 ⟨rfl,rfl⟩))
 go_ret
 have hb5:Below w1.heap.size w1 (w1.alloc (.cells #[.pointer (some ⟨b,0,none⟩)] 181)):=(Below.refl _ _).alloc (Nat.le_refl _) _
 have hlt:=hsr.lt
 have hsz:w.heap.size<w1.heap.size:=by have:=hb1.size;simp at this;omega
 refine ⟨w1.heap.size,b,Im,ao,co,al,cl,vf,rfl,by omega,by simp,by omega,?_,fun e=>by have:=hsr.imLt _ e;omega,(zq w1 #[.pointer (some ⟨b,0,none⟩)] _ 0).trans rfl,hsr.below hb5,(hB.trans (hb1.mono (by simp))).trans (hb5.mono (by omega)),by simp at hb2;omega,fun k e=>by have:=hb3 k e;simp at this;omega,fun k e=>(hb4 k e).imp id (fun h=>by simp at h;omega)⟩
 intro e
 have:=(hsr.f.lt _ e).2
 omega
end
section
open Go Go.RowKit
attribute [local go_sem] zv
theorem Stepped.ic {w w':World} {b:Nat} {Im:Nat→Prop} {C:Cst} {vf vp:Value} {P:List Int} (h:Stepped w w' b Im C vf vp P) {a:Option Addr} {n:Nat} {xs:List Int} (hi:IC w a n xs) (ha:0<n→∀p,a=some p→¬Mut b vf vp p.block):IC w' a n xs:=by
 obtain ⟨vp',_,hs,_⟩:=h
 refine ⟨hi.1,fun k hk=>?_⟩
 obtain ⟨b2,off,e,hlt,hc⟩:=hi.2 k hk
 exact ⟨b2,off,e,Nat.lt_of_lt_of_le hlt hs.size,(hs.cell hlt (ha (by omega) _ e)).trans hc⟩
theorem load_c (b:Nat) (Im:Nat→Prop) (C:Cst) (vf vp:Value) (P xs:List Int) (a:Option Addr) (n c:Nat) (w:World) (h:SR w b Im C vf vp P) (hx:IC w a n xs) (ha:0<n→∀p,a=some p→¬Mut b vf vp p.block) (hok:OkP C (P++xs)) :
  Calls Tryz.prog 130 #[.pointer (some ⟨b,0,none⟩),.slice a n c] w fun e w'=>e = .returned (.tuple #[])∧Stepped w w' b Im C vf vp (P++xs):=by
 have hl:=hx.len
 have hm:=hx.small
 have HA:=za ha
 have HOK:=za hok
 have H0:=za (Stepped.refl h)
 clear ha hok h
 go_enter Tryz.func130,Tryz.ntmps130
 go_wp2
 go_loopw [5,8] (fun _ i wr=>∃k:Nat,k≤n∧i = .int .i64 k∧Hid (Stepped w wr b Im C vf vp (P++xs.take k))) (fun _ i _=>n - (intOf i).toNat)
 case atStart=>exact ⟨0,by omega,rfl,by rw[List.take_zero,List.append_nil];exact H0.out⟩
 case round =>
  obtain ⟨k,hk,rfl,hst⟩:=hrel
  by_cases hlt:k<n
  ·have hic:=hst.out.ic hx HA.out
   obtain ⟨vp1,hsr,hs1,hk1⟩:=hst.out
   obtain ⟨bx,off,rfl,hbx,hc⟩:=hic.2 k hlt
   have htk:xs.take (k+1)=xs.take k++[xs[k]?.getD 0]:=zP _ _ _ (by omega)
   have hok2:OkP C (P++xs.take (k+1)):=by
    have h1:=HOK.out
    have h2:P++xs=(P++xs.take (k+1))++xs.drop (k+1):=by rw[List.append_assoc,List.take_append_drop]
    rw[h2] at h1
    have h3:=h1.len
    rw[List.length_append] at h3
    exact ⟨by omega,fun x hx=>h1.num x (List.mem_append_left _ hx),(List.nodup_append.1 h1.nodup).1⟩
   rw[htk,← List.append_assoc] at hok2
   have hpop:=hok2.pop
   have HP:=za (push_c b Im C vf vp1 (P++xs.take k) (xs[k]?.getD 0) wr hsr hpop.2.2.2 hpop.2.1 hpop.2.2.1)
   have HT:=za htk
   clear htk hok2 hpop hsr
   generalize xs[k]?.getD 0=x at hc HP HT
   have HS1:=za hs1
   have HK1:=za hk1
   clear hs1 hk1
   go_wp2_with (go_at_call 194;refine HP.out.mono ?_;rintro _ w2 ⟨rfl,hs2⟩)
   have HS2:=za (Stepped.trans HS1.out HK1.out hs2)
   clear hs2
   go_roundw
   case rel=>exact ⟨k+1,by omega,by go_num,by rw[HT.out,← List.append_assoc];exact HS2.out⟩
   case measure=>simp[intOf];omega
  ·have e:k=n:=by omega
   subst e
   go_wp2
   go_end0
   have:=hst.out
   rw[← hl,List.take_length] at this
   exact ⟨rfl,this⟩
end
end Go.Proofs.YtaadpihbjhachaaGreat
