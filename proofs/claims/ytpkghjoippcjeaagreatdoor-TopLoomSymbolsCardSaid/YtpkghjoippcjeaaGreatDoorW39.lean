/- Texts B7a to B8 of this proof, in one file. -/
import Derived.Test.YtpkghjoippcjeaaGreatDoorW01
import Derived.Test.YtpkghjoippcjeaaGreatDoorW02
import Derived.Test.YtpkghjoippcjeaaGreatDoorW03
import Derived.Test.YtpkghjoippcjeaaGreatDoorW35
import Derived.Test.YtpkghjoippcjeaaGreatDoorW36
namespace Go.Proofs.YtpkghjoippcjeaaGreatDoor
set_option maxRecDepth 100000
set_option maxHeartbeats 16000000
section
open Go Go.RowKit
attribute [local go_sem] over_cell
attribute [local go_sem] Oper.semAt_some
theorem infoBool1:(Tryz.prog.info? 4).map (fun i=>(i.zero,i.size,i.bytes))=some (some (.bool false),1,1):=by kernel_rfl
def seenL (n:Nat) (p:List Int) (k:Nat):List Value:=(List.range n).map fun (i:Nat)=>Value.bool (hasB (p.take k) (i:Int))
theorem seen_zero (n:Nat) (p:List Int):(madeCells (Value.bool false).cells (n*1)).toList=seenL n p 0:=by
 have e:(madeCells (Value.bool false).cells (n*1)).toList=List.replicate n (.bool false):=by
  apply List.ext_getElem?
  intro i
  by_cases h:i<n
  ·simp[madeCells,h,Value.cells,Nat.mod_one]
  ·simp[madeCells,h]
 rw[e]
 unfold seenL
 apply List.ext_getElem
 ·simp
 ·intro i h1 h2
  simp[hasB]
theorem seen_set {n:Nat} {p:List Int} {k q:Nat} (hk:k<p.length) (hq:p[k]?.getD 0=(q:Int)):(seenL n p k).set q (.bool true)=seenL n p (k+1):=by
 unfold seenL
 apply List.ext_getElem
 ·simp
 ·intro i h1 h2
  rw[List.getElem_set]
  simp only[List.getElem_map,List.getElem_range]
  have e:hasB (p.take (k+1)) (i:Int)=(hasB (p.take k) (i:Int)||(q==i)):=by
   unfold hasB
   rw[take_snoc p 0 k hk,hq,Bool.eq_iff_iff,Bool.or_eq_true,List.contains_iff_mem,List.contains_iff_mem,List.mem_append,List.mem_singleton,beq_iff_eq]
   constructor
   ·rintro (h|h)
    ·exact .inl h
    ·exact .inr (by omega)
   ·rintro (h|h)
    ·exact .inl h
    ·exact .inr (by omega)
  rw[e]
  by_cases hi:q=i
  ·subst hi;simp
  ·simp[hi]
theorem seen_at {n:Nat} {p:List Int} {k q:Nat} {x:Value} (h:(seenL n p k)[q]?=some x):x = .bool (hasB (p.take k) (q:Int)):=by
 unfold seenL at h
 rw[List.getElem?_map] at h
 cases h2:(List.range n)[q]? with
 | none=>rw[h2] at h;cases h
 | some j =>
  rw[h2] at h
  have:j=q:=by
   have h3:=List.getElem?_eq_some_iff.1 h2
   obtain ⟨h4,h5⟩:=h3
   simpa using h5.symm
  subst this
  simpa using h.symm
end
section
open Go Go.RowKit
attribute [local go_sem] over_cell
attribute [local go_sem] Oper.semAt_some
theorem aperm_c (a:Option Addr) (n c:Nat) (p:List Int) (w:World) (h:IC w a n p) :
  Calls Tryz.prog 19 #[.slice a n c] w fun e w'=>e = .returned (.int .i64 (permE p))∧Below w.heap.size w w':=by
 obtain ⟨i0,hi,hz0,hz1,hz2⟩:=info_parts infoBool1
 have hm:=h.small
 have hlen:=h.len
 by_cases hbig:256<n
 ·have HE:Hid (permE p=5):=by unfold Hid permE;rw[if_pos (by omega)]
  have hbi:(256:Int)<(n:Int):=by omega
  clear h hlen
  go_enter Tryz.func19,Tryz.ntmps19
  go_wp2
  go_ret
  exact ⟨ret_int HE.out.symm,Below.refl _ _⟩
 ·have HE1:Hid (∀k,k<n→badP p k=true→permE p=14):=fun k hk e=>by unfold permE;rw[if_neg (by omega),permB_miss (by omega) e];rfl
  have HE0:Hid ((∀k,k<n→badP p k=false)→permE p=0):=fun e=>by unfold permE;rw[if_neg (by omega),permB_end (fun k hk=>e k (by omega))];rfl
  have H:=Lib.hid h
  have HL:=Lib.hid hlen
  have HBD:Hid (∀k,badP p k=(decide (p[k]?.getD 0<0)||(decide ((n:Int)≤p[k]?.getD 0)||hasB (p.take k) (p[k]?.getD 0)))):=fun k=>by unfold badP;rw[hlen]
  have HSS:Hid (∀k q:Nat,k<n→p[k]?.getD 0=(q:Int)→(seenL n p k).set q (.bool true)=seenL n p (k+1)):=fun k q hk e=>seen_set (by omega) e
  clear h hlen
  generalize permE p=er at HE1 HE0 ⊢
  have hnb:¬(256:Int)<(n:Int):=by omega
  go_enter Tryz.func19,Tryz.ntmps19
  go_wp2_with (refine wpList_make_full _ rfl _ _ 73 rfl w.heap.size 4 i0 (.bool false) 1 Tryz.underlying73 hi hz0 hz1 _ _ _ _ n rfl rfl (by simp) (by simp) (by rw[hz2];omega) (by unfold maxLen;omega) (Nat.le_refl _) ?_;intro W4 hown4 hgr4)
  rw[seen_zero n p] at hown4
  have hB4:Below w.heap.size w W4:=(Below.refl w.heap.size w).grown hgr4 (Nat.le_refl _) (fun k e=>by cases e)
  clear hgr4
  go_loopw [5,14] (fun _ iv wr=>∃k:Nat,k≤n∧iv = .int .i64 k∧wr.ownsRow w.heap.size 4 1 (.slice (some ⟨w.heap.size,0,none⟩) n n) n (seenL n p k)∧Hid (∀j,j<k→badP p j=false)∧Below w.heap.size w wr) (fun _ iv _=>n - (intOf iv).toNat)
  case atStart=>exact ⟨0,by omega,rfl,hown4,fun j hj=>absurd hj (by omega),hB4⟩
  case round =>
   clear hown4 hB4
   obtain ⟨k,hk,rfl,hown,hno,hbr⟩:=hrel
   by_cases hlt:k<n
   ·have hki:(k:Int)<(n:Int):=by omega
    obtain ⟨b5,o5,rfl,hb5,hc5⟩:=(H.out.mono hbr).2 k hlt
    have HX:=Lib.hid (HBD.out k)
    have HE1k:=Lib.hid (HE1.out k hlt)
    have HSK:=Lib.hid (fun q=>HSS.out k q hlt)
    have HNK:Hid (badP p k=false→∀j,j<k+1→badP p j=false):=fun e=>perm_upto hno.out e
    generalize badP p k=bd at HX HE1k HNK
    generalize p[k]?.getD 0=x at hc5 HX HSK
    by_cases hx0:x<0
    ·have hd:decide (x<0)=true:=decide_eq_true hx0
     rw[hd,Bool.true_or] at HX
     go_wp2
     go_ret
     exact ⟨ret_int (HE1k.out HX.out).symm,hbr⟩
    ·have hd:decide (x<0)=false:=decide_eq_false hx0
     rw[hd,Bool.false_or] at HX
     by_cases hxn:(n:Int)≤x
     ·have hd2:decide ((n:Int)≤x)=true:=decide_eq_true hxn
      rw[hd2,Bool.true_or] at HX
      go_wp2
      go_ret
      exact ⟨ret_int (HE1k.out HX.out).symm,hbr⟩
     ·have hd2:decide ((n:Int)≤x)=false:=decide_eq_false hxn
      rw[hd2,Bool.false_or] at HX
      obtain ⟨q,rfl⟩:=Int.eq_ofNat_of_zero_le (show 0≤x by omega)
      have hqn:q<n:=by omega
      have hqi:(q:Int)<(n:Int):=by omega
      have hqi0:(0:Int)≤(q:Int):=by omega
      obtain ⟨g9,c9,x9,e9,hx9,hcell9,hfr9,hlt9,hn9⟩:=owns_free (owns_base hown (Nat.zero_le _)) q hqn
      simp only[Value.slice.injEq,Option.some.injEq,Addr.mk.injEq,true_and,and_true] at e9
      obtain ⟨e9,hcap9⟩:=e9
      subst e9
      clear hcap9
      obtain rfl:=seen_at hx9
      generalize hasB (p.take k) (q:Int)=hb at HX hcell9
      cases hb with
      | true =>
       clear hx9 hfr9
       go_wp2
       go_ret
       exact ⟨ret_int (HE1k.out HX.out).symm,hbr⟩
      | false =>
       have HSO:=Lib.hid (owns_set hown q (.bool true))
       rw[HSK.out q rfl] at HSO
       have HSB:Hid (∀u,Below w.heap.size w (wr.setCell ⟨w.heap.size,q,none⟩ u)):=fun u=>hbr.setCell (p:=⟨w.heap.size,q,none⟩) (Nat.le_refl _) u
       clear hx9 hown
       go_wp2
       go_roundw
       case rel=>exact ⟨k+1,by omega,by go_num,HSO.out,HNK.out HX.out,HSB.out _⟩
       case measure=>simp[intOf];omega
   ·have e:k=n:=by omega
    subst e
    have HF:=Lib.hid (HE0.out hno.out)
    go_wp2
    go_ret
    exact ⟨ret_int HF.out.symm,hbr⟩
end
end Go.Proofs.YtpkghjoippcjeaaGreatDoor
