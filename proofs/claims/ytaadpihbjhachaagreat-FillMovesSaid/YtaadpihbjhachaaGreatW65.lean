/- Texts B7 to B8 of this proof, in one file. -/
import Derived.Test.YtaadpihbjhachaaGreatW03
import Derived.Test.YtaadpihbjhachaaGreatW04
import Derived.Test.YtaadpihbjhachaaGreatW07
import Derived.Test.YtaadpihbjhachaaGreatW61
import Derived.Test.YtaadpihbjhachaaGreatW62
namespace Go.Proofs.YtaadpihbjhachaaGreat
set_option maxRecDepth 100000
set_option maxHeartbeats 16000000
section
open Go Go.RowKit
attribute [local go_sem] zv
attribute [local go_sem] Oper.semAt_some
theorem infoBool1:(Tryz.prog.info? 4).map (fun i=>(i.zero,i.size,i.bytes))=some (some (.bool false),1,1):=by kernel_rfl
def seenL (n:Nat) (p:List Int) (k:Nat):List Value:=(List.range n).map fun (i:Nat)=>Value.bool (zY (p.take k) (i:Int))
theorem seen_zero (n:Nat) (p:List Int):(madeCells (Value.bool false).cells (n*1)).toList=seenL n p 0:=by
 have e:(madeCells (Value.bool false).cells (n*1)).toList=List.replicate n (.bool false):=by
  apply List.ext_getElem?
  intro i
  by_cases h:i<n
  ·simp[madeCells,h,Value.cells,Nat.mod_one]
  ·simp[madeCells,h]
 rw[e]
 unfold seenL
 apply List.ext_getElem
 ·simp
 ·intro i h1 h2
  simp[zY]
theorem seen_set {n:Nat} {p:List Int} {k q:Nat} (hk:k<p.length) (hq:p[k]?.getD 0=(q:Int)):(seenL n p k).set q (.bool true)=seenL n p (k+1):=by
 unfold seenL
 apply List.ext_getElem
 ·simp
 ·intro i h1 h2
  rw[List.getElem_set]
  simp only[List.getElem_map,List.getElem_range]
  have e:zY (p.take (k+1)) (i:Int)=(zY (p.take k) (i:Int)||(q==i)):=by
   unfold zY
   rw[zP p 0 k hk,hq,Bool.eq_iff_iff,Bool.or_eq_true,List.contains_iff_mem,List.contains_iff_mem,List.mem_append,List.mem_singleton,beq_iff_eq]
   constructor
   ·rintro (h|h)
    ·exact .inl h
    ·exact .inr (by omega)
   ·rintro (h|h)
    ·exact .inl h
    ·exact .inr (by omega)
  rw[e]
  by_cases hi:q=i
  ·subst hi;simp
  ·simp[hi]
theorem seen_at {n:Nat} {p:List Int} {k q:Nat} {x:Value} (h:(seenL n p k)[q]?=some x):x = .bool (zY (p.take k) (q:Int)):=by
 unfold seenL at h
 rw[List.getElem?_map] at h
 cases h2:(List.range n)[q]? with
 | none=>rw[h2] at h;cases h
 | some j =>
  rw[h2] at h
  have:j=q:=by
   have h3:=List.getElem?_eq_some_iff.1 h2
   obtain ⟨h4,h5⟩:=h3
   simpa using h5.symm
  subst this
  simpa using h.symm
theorem aperm_c (a:Option Addr) (n c:Nat) (p:List Int) (w:World) (h:IC w a n p) :
  Calls Tryz.prog 215 #[.slice a n c] w fun e w'=>e = .returned (.int .i64 (jX p))∧Below w.heap.size w w':=by
 obtain ⟨i0,hi,hz0,hz1,hz2⟩:=info_parts infoBool1
 have hm:=h.small
 have hlen:=h.len
 by_cases hbig:256<n
 ·have HE:Hid (jX p=5):=by unfold Hid jX;rw[if_pos (by omega)]
  have hbi:(256:Int)<(n:Int):=by omega
  clear h hlen
  go_enter Tryz.func215,Tryz.ntmps215
  go_wp2
  go_ret
  exact ⟨zD HE.out.symm,Below.refl _ _⟩
 ·have HE1:Hid (∀k,k<n→badP p k=true→jX p=14):=fun k hk e=>by unfold jX;rw[if_neg (by omega),permB_miss (by omega) e];rfl
  have HE0:Hid ((∀k,k<n→badP p k=false)→jX p=0):=fun e=>by unfold jX;rw[if_neg (by omega),permB_end (fun k hk=>e k (by omega))];rfl
  have H:=za h
  have HL:=za hlen
  have HBD:Hid (∀k,badP p k=(decide (p[k]?.getD 0<0)||(decide ((n:Int)≤p[k]?.getD 0)||zY (p.take k) (p[k]?.getD 0)))):=fun k=>by unfold badP;rw[hlen]
  have HSS:Hid (∀k q:Nat,k<n→p[k]?.getD 0=(q:Int)→(seenL n p k).set q (.bool true)=seenL n p (k+1)):=fun k q hk e=>seen_set (by omega) e
  clear h hlen
  generalize jX p=er at HE1 HE0 ⊢
  have hnb:¬(256:Int)<(n:Int):=by omega
  go_enter Tryz.func215,Tryz.ntmps215
  go_wp2_with (refine wpList_make_full _ rfl _ _ 156 rfl w.heap.size 4 i0 (.bool false) 1 Tryz.underlying156 hi hz0 hz1 _ _ _ _ n rfl rfl (by simp) (by simp) (by rw[hz2];omega) (by unfold maxLen;omega) (Nat.le_refl _) ?_;intro W4 hown4 hgr4)
  rw[seen_zero n p] at hown4
  have hB4:Below w.heap.size w W4:=(Below.refl w.heap.size w).grown hgr4 (Nat.le_refl _) (fun k e=>by cases e)
  clear hgr4
  go_loopw [5,14] (fun _ iv wr=>∃k:Nat,k≤n∧iv = .int .i64 k∧wr.ownsRow w.heap.size 4 1 (.slice (some ⟨w.heap.size,0,none⟩) n n) n (seenL n p k)∧Hid (∀j,j<k→badP p j=false)∧Below w.heap.size w wr) (fun _ iv _=>n - (intOf iv).toNat)
  case atStart=>exact ⟨0,by omega,rfl,hown4,fun j hj=>absurd hj (by omega),hB4⟩
  case round =>
   clear hown4 hB4
   obtain ⟨k,hk,rfl,hown,hno,hbr⟩:=hrel
   by_cases hlt:k<n
   ·have hki:(k:Int)<(n:Int):=by omega
    obtain ⟨b5,o5,rfl,hb5,hc5⟩:=(H.out.mono hbr).2 k hlt
    have HX:=za (HBD.out k)
    have HE1k:=za (HE1.out k hlt)
    have HSK:=za (fun q=>HSS.out k q hlt)
    have HNK:Hid (badP p k=false→∀j,j<k+1→badP p j=false):=fun e=>upb_snoc hno.out e
    generalize badP p k=bd at HX HE1k HNK
    generalize p[k]?.getD 0=x at hc5 HX HSK
    by_cases hx0:x<0
    ·have hd:decide (x<0)=true:=decide_eq_true hx0
     rw[hd,Bool.true_or] at HX
     go_wp2
     go_ret
     exact ⟨zD (HE1k.out HX.out).symm,hbr⟩
    ·have hd:decide (x<0)=false:=decide_eq_false hx0
     rw[hd,Bool.false_or] at HX
     by_cases hxn:(n:Int)≤x
     ·have hd2:decide ((n:Int)≤x)=true:=decide_eq_true hxn
      rw[hd2,Bool.true_or] at HX
      go_wp2
      go_ret
      exact ⟨zD (HE1k.out HX.out).symm,hbr⟩
     ·have hd2:decide ((n:Int)≤x)=false:=decide_eq_false hxn
      rw[hd2,Bool.false_or] at HX
      obtain ⟨q,rfl⟩:=Int.eq_ofNat_of_zero_le (show 0≤x by omega)
      have hqn:q<n:=by omega
      have hqi:(q:Int)<(n:Int):=by omega
      have hqi0:(0:Int)≤(q:Int):=by omega
      obtain ⟨g9,c9,x9,e9,hx9,hcell9,hfr9,hlt9,hn9⟩:=jq (zI hown (Nat.zero_le _)) q hqn
      simp only[Value.slice.injEq,Option.some.injEq,Addr.mk.injEq,true_and,and_true] at e9
      obtain ⟨e9,hcap9⟩:=e9
      subst e9
      clear hcap9
      obtain rfl:=seen_at hx9
      generalize zY (p.take k) (q:Int)=hb at HX hcell9
      cases hb with
      | true =>
       clear hx9 hfr9
       go_wp2
       go_ret
       exact ⟨zD (HE1k.out HX.out).symm,hbr⟩
      | false =>
       have HSO:=za (qJ hown q (.bool true))
       rw[HSK.out q rfl] at HSO
       have HSB:Hid (∀u,Below w.heap.size w (wr.setCell ⟨w.heap.size,q,none⟩ u)):=fun u=>hbr.setCell (p:=⟨w.heap.size,q,none⟩) (Nat.le_refl _) u
       clear hx9 hown
       go_wp2
       go_roundw
       case rel=>exact ⟨k+1,by omega,by go_num,HSO.out,HNK.out HX.out,HSB.out _⟩
       case measure=>simp[intOf];omega
   ·have e:k=n:=by omega
    subst e
    have HF:=za (HE0.out hno.out)
    go_wp2
    go_ret
    exact ⟨zD HF.out.symm,hbr⟩
theorem rperm_c (a:Option Addr) (n c:Nat) (p:List Int) (w:World) (h:IC w a n p) :
  Calls Tryz.prog 124 #[.slice a n c] w fun e w'=>e = .returned (.int .i64 (jX p))∧Below w.heap.size w w':=by
 obtain ⟨i0,hi,hz0,hz1,hz2⟩:=info_parts infoBool1
 have hm:=h.small
 have hlen:=h.len
 by_cases hbig:256<n
 ·have HE:Hid (jX p=5):=by unfold Hid jX;rw[if_pos (by omega)]
  have hbi:(256:Int)<(n:Int):=by omega
  clear h hlen
  go_enter Tryz.func124,Tryz.ntmps124
  go_wp2
  go_ret
  exact ⟨zD HE.out.symm,Below.refl _ _⟩
 ·have HE1:Hid (∀k,k<n→badP p k=true→jX p=14):=fun k hk e=>by unfold jX;rw[if_neg (by omega),permB_miss (by omega) e];rfl
  have HE0:Hid ((∀k,k<n→badP p k=false)→jX p=0):=fun e=>by unfold jX;rw[if_neg (by omega),permB_end (fun k hk=>e k (by omega))];rfl
  have H:=za h
  have HBD:Hid (∀k,badP p k=(decide (p[k]?.getD 0<0)||(decide ((n:Int)≤p[k]?.getD 0)||zY (p.take k) (p[k]?.getD 0)))):=fun k=>by unfold badP;rw[hlen]
  have HSS:Hid (∀k q:Nat,k<n→p[k]?.getD 0=(q:Int)→(seenL n p k).set q (.bool true)=seenL n p (k+1)):=fun k q hk e=>seen_set (by omega) e
  clear h hlen
  generalize jX p=er at HE1 HE0 ⊢
  have hnb:¬(256:Int)<(n:Int):=by omega
  go_enter Tryz.func124,Tryz.ntmps124
  go_wp2_with (refine wpList_make_full _ rfl _ _ 156 rfl w.heap.size 4 i0 (.bool false) 1 Tryz.underlying156 hi hz0 hz1 _ _ _ _ n rfl rfl (by simp) (by simp) (by rw[hz2];omega) (by unfold maxLen;omega) (Nat.le_refl _) ?_;intro W4 hown4 hgr4)
  rw[seen_zero n p] at hown4
  have hB4:Below w.heap.size w W4:=(Below.refl w.heap.size w).grown hgr4 (Nat.le_refl _) (fun k e=>by cases e)
  clear hgr4
  go_loopw [4] (fun iv wr=>∃k:Nat,k≤n∧iv = .int .i64 k∧wr.ownsRow w.heap.size 4 1 (.slice (some ⟨w.heap.size,0,none⟩) n n) n (seenL n p k)∧Hid (∀j,j<k→badP p j=false)∧Below w.heap.size w wr) (fun iv _=>n - (intOf iv).toNat)
  case atStart=>exact ⟨0,by omega,rfl,hown4,fun j hj=>absurd hj (by omega),hB4⟩
  case round =>
   clear hown4 hB4
   obtain ⟨k,hk,rfl,hown,hno,hbr⟩:=hrel
   by_cases hlt:k<n
   ·have hki:(k:Int)<(n:Int):=by omega
    obtain ⟨b5,o5,rfl,hb5,hc5⟩:=(H.out.mono hbr).2 k hlt
    have HX:=za (HBD.out k)
    have HE1k:=za (HE1.out k hlt)
    have HSK:=za (fun q=>HSS.out k q hlt)
    have HNK:Hid (badP p k=false→∀j,j<k+1→badP p j=false):=fun e=>upb_snoc hno.out e
    generalize badP p k=bd at HX HE1k HNK
    generalize p[k]?.getD 0=x at hc5 HX HSK
    by_cases hx0:x<0
    ·have hd:decide (x<0)=true:=decide_eq_true hx0
     rw[hd,Bool.true_or] at HX
     go_wp2
     go_ret
     exact ⟨zD (HE1k.out HX.out).symm,hbr⟩
    ·have hd:decide (x<0)=false:=decide_eq_false hx0
     rw[hd,Bool.false_or] at HX
     by_cases hxn:(n:Int)≤x
     ·have hd2:decide ((n:Int)≤x)=true:=decide_eq_true hxn
      rw[hd2,Bool.true_or] at HX
      go_wp2
      go_ret
      exact ⟨zD (HE1k.out HX.out).symm,hbr⟩
     ·have hd2:decide ((n:Int)≤x)=false:=decide_eq_false hxn
      rw[hd2,Bool.false_or] at HX
      obtain ⟨q,rfl⟩:=Int.eq_ofNat_of_zero_le (show 0≤x by omega)
      have hqn:q<n:=by omega
      have hqi:(q:Int)<(n:Int):=by omega
      have hqi0:(0:Int)≤(q:Int):=by omega
      obtain ⟨g9,c9,x9,e9,hx9,hcell9,hfr9,hlt9,hn9⟩:=jq (zI hown (Nat.zero_le _)) q hqn
      simp only[Value.slice.injEq,Option.some.injEq,Addr.mk.injEq,true_and,and_true] at e9
      obtain ⟨e9,hcap9⟩:=e9
      subst e9
      clear hcap9
      obtain rfl:=seen_at hx9
      generalize zY (p.take k) (q:Int)=hb at HX hcell9
      cases hb with
      | true =>
       clear hx9 hfr9
       go_wp2
       go_ret
       exact ⟨zD (HE1k.out HX.out).symm,hbr⟩
      | false =>
       have HSO:=za (qJ hown q (.bool true))
       rw[HSK.out q rfl] at HSO
       have HSB:Hid (∀u,Below w.heap.size w (wr.setCell ⟨w.heap.size,q,none⟩ u)):=fun u=>hbr.setCell (p:=⟨w.heap.size,q,none⟩) (Nat.le_refl _) u
       clear hx9 hown
       go_wp2
       go_roundw
       case rel=>exact ⟨k+1,by omega,by go_num,HSO.out,HNK.out HX.out,HSB.out _⟩
       case measure=>simp[intOf];omega
   ·have e:k=n:=by omega
    subst e
    have HF:=za (HE0.out hno.out)
    go_wp2
    go_ret
    exact ⟨zD HF.out.symm,hbr⟩
theorem gwhen_c (h:Bool) (e:Int) (w:World):Calls Tryz.prog 102 #[.bool h,.int .i64 e] w fun r w'=>r = .returned (.int .i64 (zn h e))∧w=w':=by
 cases h
 ·go_enter Tryz.func102,Tryz.ntmps102
  go_wp2
  go_ret
  exact ⟨rfl,rfl⟩
 ·go_enter Tryz.func102,Tryz.ntmps102
  go_wp2
  go_ret
  exact ⟨rfl,rfl⟩
theorem gfirst_c (a:Option Addr) (n c:Nat) (xs:List Int) (w:World) (h:IC w a n xs) :
  Calls Tryz.prog 93 #[.slice a n c] w fun e w'=>e = .returned (.int .i64 (zz xs))∧w=w':=by
 have hm:=h.small
 go_enter Tryz.func93,Tryz.ntmps93
 go_wp2
 go_loop [4,7] (fun _ i=>∃k:Nat,k≤n∧i = .int .i64 k∧Hid (∀j,j<k→xs[j]?.getD 0=0)) (fun _ i=>n - (intOf i).toNat)
 case atStart=>exact ⟨0,by omega,rfl,fun j hj=>absurd hj (by omega)⟩
 case round =>
  obtain ⟨k,hk,rfl,hn⟩:=hrel
  by_cases hlt:k<n
  ·obtain ⟨b,off,rfl,hb,hc⟩:=h.2 k hlt
   go_wp2
   ·have he:(xs[k]?.getD 0 != 0)=true:=by assumption
    go_ret
    exact ⟨zD (firstL_hit hn.out (by rw[h.len];exact hlt) (by simpa using he)).symm,rfl⟩
   ·have he:(xs[k]?.getD 0 != 0)=false:=by assumption
    go_round
    case rel=>exact ⟨k+1,by omega,by go_num,jj hn.out (by simpa using he)⟩
    case measure=>simp[intOf];omega
  ·have e:k=n:=by omega
   subst e
   go_wp2
   go_ret
   exact ⟨zD (firstL_none (by rw[h.len];exact hn.out)).symm,rfl⟩
theorem gisperm_c (a:Option Addr) (n c:Nat) (p:List Int) (w:World) (h:IC w a n p) :
  Calls Tryz.prog 157 #[.slice a n c] w fun e w'=>e = .returned (.bool (jX p==0))∧Below w.heap.size w w':=by
 have HP:=za (aperm_c a n c p w h)
 clear h
 generalize jX p=er at HP ⊢
 go_enter Tryz.func157,Tryz.ntmps157
 go_wp2_with (go_at_call 215;refine HP.out.mono ?_;rintro _ w1 ⟨rfl,hb1⟩)
 go_ret
 exact ⟨rfl,hb1⟩
def cellsB (cells:Int):Bool:=decide (cells<0)||decide (256<cells)
theorem gcells_c (cells:Int) (w:World):Calls Tryz.prog 156 #[.int .i64 cells] w fun e w'=>e = .returned (.int .i64 (zn (cellsB cells) 3))∧w=w':=by
 by_cases h:cells<0
 ·have hd:decide (cells<0)=true:=decide_eq_true h
  have HE:Hid (cellsB cells=true):=by unfold Hid cellsB;rw[hd];rfl
  go_enter Tryz.func156,Tryz.ntmps156
  go_wp2_with (go_at_call 102;refine (gwhen_c _ _ _).mono ?_;rintro _ w1 ⟨rfl,rfl⟩)
  go_ret
  exact ⟨by rw[HE.out];rfl,rfl⟩
 ·have hd:decide (cells<0)=false:=decide_eq_false h
  have HE:Hid (cellsB cells=decide (256<cells)):=by unfold Hid cellsB;rw[hd];rfl
  go_enter Tryz.func156,Tryz.ntmps156
  go_wp2_with (go_at_call 102;refine (gwhen_c _ _ _).mono ?_;rintro _ w1 ⟨rfl,rfl⟩)
  go_ret
  exact ⟨by rw[HE.out];rfl,rfl⟩
def symP (cells:Int) (p:List Int):Int:=zz [zn (cellsB cells) 3,zn ((p.length:Int) != cells) 2,zn (!(jX p==0)) 14]
def symR (cells:Int) (p:List Int):Int:=if cellsB cells=true then 3 else if (p.length:Int)≠cells then 2 else jX p
theorem gsym_c (a:Option Addr) (n c:Nat) (p:List Int) (cp:Bool) (cells:Int) (w:World) (h:IC w a n p) :
  Calls Tryz.prog 84 #[.agg #[.slice a n c,.bool cp],.int .i64 cells] w fun e w'=>e = .returned (.int .i64 (symP cells p))∧Below w.heap.size w w':=by
 have HP:=za (fun W (hb:Below w.heap.size w W)=>gisperm_c a n c p W (h.mono hb))
 have HE:Hid (symP cells p=zz [zn (cellsB cells) 3,zn ((n:Int) != cells) 2,zn (!(jX p==0)) 14]):=by unfold Hid symP;rw[h.len]
 have hm:=h.small
 clear h
 generalize symP cells p=se at HE ⊢
 generalize (jX p==0)=pe at HP HE
 go_enter Tryz.func84,Tryz.ntmps84
 go_wp2_with fail
 have fsz:(w.alloc (.cells #[.slice a n c,.bool cp] 29)).heap.size=w.heap.size+1:=by simp only[World.size_alloc]
 have fB:Below w.heap.size w (w.alloc (.cells #[.slice a n c,.bool cp] 29)):=(Below.refl _ _).alloc (Nat.le_refl _) _
 have fq0:(w.alloc (.cells #[.slice a n c,.bool cp] 29)).heap[w.heap.size]?=some (.cells #[.slice a n c,.bool cp] 29 (0,0)):=by have h:=World.alloc_heap_new w (.cells #[.slice a n c,.bool cp] 29);exact h
 generalize (w.alloc (.cells #[.slice a n c,.bool cp] 29))=W0 at fsz fB fq0 ⊢
 have x0:W0.cell? ⟨w.heap.size,0,none⟩=some (.slice a n c):=zc fq0 0
 have xl:=zy fq0
 clear fq0 fsz
 refine zk (fun w'=>∃u,w'=over (W0) u) [15,14,13,12] [(0,0),(0,2),(0,3),(0,4),(0,5),(0,6),(0,8),(0,9),(1,1),(1,7),(1,10),(0,11),(2,12),(2,13),(2,14),(2,15)] (by kernel_rfl) (by kernel_rfl) (by exact ⟨_,zi (by repeat (first|assumption|exact Below.refl _ _|refine zd ?_|refine zg ?_ _|refine zb ?_ (by assumption)))⟩) ?_
 dsimp only[zt,zG]
 repeat (first|(refine zu rfl (fun K hK=>?_);go_big_quiet_op;refine hK _ ?_;clear hK K)|(refine zp rfl rfl (fun K hK=>?_);go_big_quiet_op;refine hK _ ?_;clear hK K)|(refine zE ?_;go_wp2_with (first|(go_at_call 156;refine (gcells_c _ _).mono ?_;rintro _ w1 ⟨rfl,rfl⟩)|(go_at_call 102;refine (gwhen_c _ _ _).mono ?_;rintro _ w2 ⟨rfl,rfl⟩)|(go_at_call 157;refine (HP.out _ (zb fB (zd (Below.refl _ _)))).mono ?_;rintro _ w3 ⟨rfl,hb3⟩)|(go_at_call 93;refine (gfirst_c _ _ _ _ _ (IC.new3 _ _ _ _ _)).mono ?_;rintro _ w4 ⟨rfl,rfl⟩));refine ⟨?_,?_⟩;focus (exact ⟨_,zi (by repeat (first|assumption|exact Below.refl _ _|refine zd ?_|refine zg ?_ _|refine zb ?_ (by assumption)))⟩)))
 refine zA _ _ _ rfl ?_
 dsimp only[List.map]
 go_wp2_with (first|(go_at_call 156;refine (gcells_c _ _).mono ?_;rintro _ w1 ⟨rfl,rfl⟩)|(go_at_call 102;refine (gwhen_c _ _ _).mono ?_;rintro _ w2 ⟨rfl,rfl⟩)|(go_at_call 157;refine (HP.out _ (zb fB (zd (Below.refl _ _)))).mono ?_;rintro _ w3 ⟨rfl,hb3⟩)|(go_at_call 93;refine (gfirst_c _ _ _ _ _ (IC.new3 _ _ _ _ _)).mono ?_;rintro _ w4 ⟨rfl,rfl⟩))
 refine NoPanic.normal ?_
 go_wp2_with fail
 go_ret
 refine ⟨zD HE.out.symm,zb fB ?_⟩
 exact zg (zb (zd (Below.refl _ _)) hb3) _
theorem rcells_c (cells:Int) (w:World):Calls Tryz.prog 105 #[.int .i64 cells] w fun e w'=>e = .returned (.int .i64 (zn (cellsB cells) 3))∧w=w':=by
 by_cases h:cells<0
 ·have hd:decide (cells<0)=true:=decide_eq_true h
  have HE:Hid (cellsB cells=true):=by unfold Hid cellsB;rw[hd];rfl
  go_enter Tryz.func105,Tryz.ntmps105
  go_wp2
  go_ret
  exact ⟨by rw[HE.out];rfl,rfl⟩
 ·have hd:decide (cells<0)=false:=decide_eq_false h
  have HE:Hid (cellsB cells=decide (256<cells)):=by unfold Hid cellsB;rw[hd];rfl
  by_cases h2:256<cells
  ·have hd2:decide (256<cells)=true:=decide_eq_true h2
   rw[hd2] at HE
   go_enter Tryz.func105,Tryz.ntmps105
   go_wp2
   go_ret
   exact ⟨by rw[HE.out];rfl,rfl⟩
  ·have hd2:decide (256<cells)=false:=decide_eq_false h2
   rw[hd2] at HE
   go_enter Tryz.func105,Tryz.ntmps105
   go_wp2
   go_ret
   exact ⟨by rw[HE.out];rfl,rfl⟩
theorem rsym_c (a:Option Addr) (n c:Nat) (p:List Int) (cp:Bool) (cells:Int) (w:World) (h:IC w a n p) :
  Calls Tryz.prog 51 #[.agg #[.slice a n c,.bool cp],.int .i64 cells] w fun e w'=>e = .returned (.int .i64 (symR cells p))∧Below w.heap.size w w':=by
 have HP:=za (fun W (hb:Below w.heap.size w W)=>rperm_c a n c p W (h.mono hb))
 have HE:Hid (symR cells p=if cellsB cells=true then 3 else if (n:Int)≠cells then 2 else jX p):=by unfold Hid symR;rw[h.len]
 have HC:=za (fun W=>rcells_c cells W)
 have hm:=h.small
 clear h
 generalize symR cells p=se at HE ⊢
 generalize jX p=pe at HP HE
 generalize cellsB cells=cb at HC HE
 go_enter Tryz.func51,Tryz.ntmps51
 go_wp2_with fail
 have fsz:(w.alloc (.cells #[.slice a n c,.bool cp] 29)).heap.size=w.heap.size+1:=by simp only[World.size_alloc]
 have fB:Below w.heap.size w (w.alloc (.cells #[.slice a n c,.bool cp] 29)):=(Below.refl _ _).alloc (Nat.le_refl _) _
 have fq0:(w.alloc (.cells #[.slice a n c,.bool cp] 29)).heap[w.heap.size]?=some (.cells #[.slice a n c,.bool cp] 29 (0,0)):=by have h:=World.alloc_heap_new w (.cells #[.slice a n c,.bool cp] 29);exact h
 generalize (w.alloc (.cells #[.slice a n c,.bool cp] 29))=W0 at fsz fB fq0 ⊢
 have x0:W0.cell? ⟨w.heap.size,0,none⟩=some (.slice a n c):=zc fq0 0
 have xl:=zy fq0
 clear fq0 fsz
 cases cb with
 | true =>
  rw[if_pos rfl] at HE
  go_wp2_with (first|(go_at_call 105;refine (HC.out _).mono ?_;rintro _ w1 ⟨rfl,rfl⟩))
  go_ret
  exact ⟨zD HE.out.symm,fB⟩
 | false =>
  rw[if_neg (by decide)] at HE
  by_cases hne:(n:Int)=cells
  ·rw[if_neg (fun h=>h hne)] at HE
   subst hne
   go_wp2_with (first|(go_at_call 105;refine (HC.out _).mono ?_;rintro _ w1 ⟨rfl,rfl⟩)|(go_at_call 124;refine (HP.out _ fB).mono ?_;rintro _ w3 ⟨rfl,hb3⟩))
   go_ret
   exact ⟨zD HE.out.symm,zb fB hb3⟩
  ·rw[if_pos hne] at HE
   have hnb:((n:Int) != cells)=true:=by simpa using hne
   go_wp2_with (first|(go_at_call 105;refine (HC.out _).mono ?_;rintro _ w1 ⟨rfl,rfl⟩))
   go_ret
   exact ⟨zD HE.out.symm,fB⟩
theorem alone_c (a:Option Addr) (n c:Nat) (p:List Int) (cp:Bool) (w:World) (h:IC w a n p) :
  Calls Tryz.prog 10 #[.agg #[.slice a n c,.bool cp]] w fun e w'=>e = .returned (.int .i64 (symR (n:Int) p))∧Below w.heap.size w w':=by
 have HP:=za (fun W (hb:Below w.heap.size w W)=>rsym_c a n c p cp (n:Int) W (h.mono hb))
 have hm:=h.small
 clear h
 generalize symR (n:Int) p=pe at HP ⊢
 go_enter Tryz.func10,Tryz.ntmps10
 go_wp2_with fail
 have fsz:(w.alloc (.cells #[.slice a n c,.bool cp] 29)).heap.size=w.heap.size+1:=by simp only[World.size_alloc]
 have fB:Below w.heap.size w (w.alloc (.cells #[.slice a n c,.bool cp] 29)):=(Below.refl _ _).alloc (Nat.le_refl _) _
 have fq0:(w.alloc (.cells #[.slice a n c,.bool cp] 29)).heap[w.heap.size]?=some (.cells #[.slice a n c,.bool cp] 29 (0,0)):=by have h:=World.alloc_heap_new w (.cells #[.slice a n c,.bool cp] 29);exact h
 generalize (w.alloc (.cells #[.slice a n c,.bool cp] 29))=W0 at fsz fB fq0 ⊢
 have x0:W0.cell? ⟨w.heap.size,0,none⟩=some (.slice a n c):=zc fq0 0
 have x1:W0.cell? ⟨w.heap.size,1,none⟩=some (.bool cp):=zc fq0 1
 have xl:=zy fq0
 clear fq0 fsz
 go_wp2_with (first|(go_at_call 51;refine (HP.out _ fB).mono ?_;rintro _ w3 ⟨rfl,hb3⟩))
 go_ret
 exact ⟨rfl,zb fB hb3⟩
theorem symR_ok {n:Nat} {p:List Int} (hl:p.length=n) (h:symR (n:Int) p=0):n≤256∧PermP p∧jX p=0:=by
 unfold symR at h
 by_cases h1:cellsB (n:Int)=true
 ·rw[if_pos h1] at h;cases h
 ·rw[if_neg h1,if_neg (fun e=>e (by omega))] at h
  have:=perm_ok h
  exact ⟨by omega,this.2,h⟩
theorem symP_ok {n:Nat} {p:List Int} (hl:p.length=n) (h:jX p=0):symP (n:Int) p=0:=by
 have h1:=(perm_ok h).1
 have h2:cellsB (n:Int)=false:=by unfold cellsB;rw[decide_eq_false (by omega),decide_eq_false (by omega)];rfl
 have h3:((p.length:Int) != (n:Int))=false:=by rw[hl];simp
 unfold symP
 rw[h2,h3,h]
 rfl
end
section
open Go Go.RowKit
attribute [local go_sem] zv
attribute [local go_sem] Oper.semAt_some
theorem infoInt1:(Tryz.prog.info? 3).map (fun i=>(i.zero,i.size,i.bytes))=some (some (.int .i64 0),1,8):=by kernel_rfl
theorem made_zero (n:Nat):(madeCells (Value.int .i64 0).cells (n*1)).toList=(List.replicate n (0:Int)).map (Value.int .i64):=by
 apply List.ext_getElem?
 intro i
 by_cases h:i<n
 ·simp[madeCells,h,Value.cells,Nat.mod_one]
 ·simp[madeCells,h]
end
end Go.Proofs.YtaadpihbjhachaaGreat
