/- Texts J218 to J223 of this proof, in one file. -/
import Derived.Test.YtpkghjoippcjeaaGreatDoorW02
import Derived.Test.YtpkghjoippcjeaaGreatDoorW03
import Derived.Test.YtpkghjoippcjeaaGreatDoorW05
import Derived.Test.YtpkghjoippcjeaaGreatDoorW33
import Derived.Test.YtpkghjoippcjeaaGreatDoorW51
import Derived.Test.YtpkghjoippcjeaaGreatDoorW63
import Derived.Test.YtpkghjoippcjeaaGreatDoorW67
import Derived.RangeFuncWrites
import Derived.WideKeyPair
import Derived.DeepKeys4
namespace Go.Proofs.YtpkghjoippcjeaaGreatDoor
set_option maxRecDepth 100000
set_option maxHeartbeats 16000000
section
open Go Go.RowKit Go.Maps
attribute [local go_sem] over_cell
attribute [local go_sem] Oper.semAt_some
theorem keyed_txt:Keyed Tryz.prog 9:=string_keyed Tryz.underlying9
theorem zero_boolT (w:World):(zeroValue 4).run Tryz.prog w = .ok (.bool false) w:=by
 rw[Tryz.zeroValue4]
def textK (l:List Int):List UInt8:=Lib.join ((l.map strN).map (·.data.toList)) [32]
theorem key_text (l:List Int) (h:∀x,x∈l→0≤x∧x<100) (hn:l.length≤1000):keyOf Tryz.prog 9 (.string (textL l))=some (.string (textK l)):=by
 have hl:(textK l).length≤2+l.length*3:=textL_len l h
 have:=Go.WideMaps.keyOf_string_mk (P:=Tryz.prog) (s:=textL l) Tryz.underlying9 (by show (textK l).toArray.size≤_;unfold maxLen;simp;omega)
 exact this
def txtG (ls:List (List Int)) (k:Nat) (s:List UInt8):Bool:=(List.range k).any fun j=>decide (textK (ls[j]?.getD [])=s)
theorem txtG_succ (ls:List (List Int)) (k:Nat) (s:List UInt8):txtG ls (k+1) s=if s=textK (ls[k]?.getD []) then true else txtG ls k s:=by
 unfold txtG
 rw[List.range_succ,List.any_append]
 simp only[List.any_cons,List.any_nil,Bool.or_false]
 by_cases h:s=textK (ls[k]?.getD [])
 ·rw[if_pos h,decide_eq_true h.symm,Bool.or_true]
 ·rw[if_neg h,decide_eq_false (fun e=>h e.symm),Bool.or_false]
theorem txtG_new {ls:List (List Int)} {n k:Nat} (hd:∀i j,i<n→j<n→textK (ls[i]?.getD [])=textK (ls[j]?.getD [])→i=j) (hk:k<n):txtG ls k (textK (ls[k]?.getD []))=false:=by
 unfold txtG
 rw[List.any_eq_false]
 intro j hj
 have:=List.mem_range.1 hj
 rw[decide_eq_true_eq]
 intro e
 have:=hd j k (by omega) hk e
 omega
theorem RowsI.stayS {S:Nat→Prop} {W W':World} {L:Nat} {v:Value} {pre:List (Value × List Int)} (h:RowsI W noB L v pre) (hs:Stays S W W') (hn:∀k,S k→k<L):RowsI W' noB L v pre :=
 ⟨owns_keep h.1 (fun k e hl=>hs.block k hl (fun hk=>by have:=(h.1.lt k e).1;have:=hn k hk;omega)),h.2.1,fun x hx=>⟨owns_keep (h.2.2 x hx).1 (fun k e hl=>hs.block k hl (fun hk=>by have:=((h.2.2 x hx).1.lt k e).1;have:=hn k hk;omega)),(h.2.2 x hx).2⟩⟩
structure ColI (w:World) (Z bm bs:Nat) (N:Int) (ls:List (List Int)) (k:Nat) (v:Value) (pre:List (Value × List Int)) (W:World):Prop where
 map:MapB W Tryz.prog 9 4 Lit.string bm k (txtG ls k)
 box:W.heap[bs]?=some (.cells #[.int .i64 N,v] 44 (0,0))
 rows:RowsI W noB Z v pre
 snd:pre.map Prod.snd=ls.take k
 len:pre.length=k
 base:Below w.heap.size w W
 res:W.heap[w.heap.size]?=some (.cells #[.int .i64 0,.slice none 0 0] 44 (0,0))
 blk:w.heap.size<bm∧w.heap.size≤bs∧bm<Z∧bs<Z∧bm≠bs∧Z≤W.heap.size
theorem lcollect_c (N:Int) (a:Option Addr) (n c:Nat) (ls:List (List Int)) (w:World) (h:RC w a n ls) (h1:n≤1000) (hl:∀l,l∈ls→1≤l.length∧l.length≤1000∧(∀x,x∈l→0≤x∧x<100)∧l.mergeSort (fun x y=>decide (x≤y))=l)
  (hd:∀i j,i<n→j<n→textK (ls[i]?.getD [])=textK (ls[j]?.getD [])→i=j) :
  Calls Tryz.prog 52 #[.int .i64 N,.slice a n c] w fun e w'=>∃v pre,e = .returned (.agg #[.int .i64 N,v])∧RowsI w' noB w.heap.size v pre∧pre.map Prod.snd=ls∧Below w.heap.size w w':=by
 obtain ⟨i0,hi,hz0,hz1,hz2⟩:=info_parts infoRow
 have HRC:=Lib.hid h
 have HL:=Lib.hid hl
 have HD:=Lib.hid (fun k (hk:k<n)=>txtG_new hd hk)
 have HLL:Hid (ls.length=n):=h.1.1
 clear h hl hd
 go_enter Tryz.func52,Tryz.ntmps52
 have hmm:=@run_makeMap Tryz.prog
 go_upto_region 1 with fail
 have fsz:(w.alloc (.cells #[.int .i64 0,.slice none 0 0] 44)).heap.size=w.heap.size+1:=by simp only[World.size_alloc]
 have fB:Below w.heap.size w (w.alloc (.cells #[.int .i64 0,.slice none 0 0] 44)):=(Below.refl _ _).alloc (Nat.le_refl _) _
 have fq0:(w.alloc (.cells #[.int .i64 0,.slice none 0 0] 44)).heap[w.heap.size]?=some (.cells #[.int .i64 0,.slice none 0 0] 44 (0,0)):=by have h:=World.alloc_heap_new w (.cells #[.int .i64 0,.slice none 0 0] 44);exact h
 generalize (w.alloc (.cells #[.int .i64 0,.slice none 0 0] 44))=W0 at fsz fB fq0 ⊢
 have Q0:=Lib.hid fq0
 have FB:=Lib.hid fB
 clear fq0 fsz fB
 go_upto_region 2 with fail
 clear hmm
 obtain ⟨bm,hbm⟩:∃bm,W0.heap.size=bm:=⟨_,rfl⟩
 obtain ⟨Wm,hWm⟩:∃Wm,W0.alloc (.map #[] 0)=Wm:=⟨_,rfl⟩
 have hM0:MapB Wm Tryz.prog 9 4 Lit.string bm 0 (txtG ls 0):=by rw[← hWm,← hbm];exact MapB.made
 have hBm:Below W0.heap.size W0 Wm:=by rw[← hWm];exact (Below.refl _ _).alloc (Nat.le_refl _) _
 have hms:Wm.heap.size=bm+1:=by rw[← hWm,← hbm];simp
 have hwb:w.heap.size<bm:=by rw[← hbm];exact q_lt Q0.out
 rw[hWm,hbm]
 clear hWm hbm
 go_upto_region 3 with fail
 have gsz:(Wm.alloc (.cells #[.int .i64 N,.slice none 0 0] 44)).heap.size=Wm.heap.size+1:=by simp only[World.size_alloc]
 have gB:Below Wm.heap.size Wm (Wm.alloc (.cells #[.int .i64 N,.slice none 0 0] 44)):=(Below.refl _ _).alloc (Nat.le_refl _) _
 have gq0:(Wm.alloc (.cells #[.int .i64 N,.slice none 0 0] 44)).heap[Wm.heap.size]?=some (.cells #[.int .i64 N,.slice none 0 0] 44 (0,0)):=by have h:=World.alloc_heap_new Wm (.cells #[.int .i64 N,.slice none 0 0] 44);exact h
 generalize (Wm.alloc (.cells #[.int .i64 N,.slice none 0 0] 44))=W2 at gsz gB gq0 ⊢
 have hbw:Below w.heap.size w W2:=keep_trans FB.out (keep_trans hBm gB)
 rw[hms] at gq0
 have HCO:Hid (ColI w W2.heap.size bm (bm+1) N ls 0 (.slice none 0 0) [] W2) :=
  ⟨hM0.mono gB (by omega),gq0,RowsI.nil _ _ _,rfl,rfl,hbw,keepq (keep_trans hBm gB) Q0.out,by omega,by omega,by omega,by omega,by omega,Nat.le_refl _⟩
 have HRZ:Hid (W0.heap.size≤W2.heap.size):=Nat.le_trans hBm.size gB.size
 have HWZ:Hid (w.heap.size<W2.heap.size):=by have:=hbw.size;unfold Hid;omega
 clear hbw hM0 hBm hms hwb gsz gB gq0
 generalize hZ:W2.heap.size=Z at HCO HRZ HWZ
 clear hZ
 go_wp2_with fail
 go_loopw [8,9,15] (fun _ _ s15 wr=>∃(k:Nat) (v:Value) (pre:List (Value × List Int)),k≤n∧s15 = .int .i64 (k:Int)∧Hid (ColI w Z bm (bm+1) N ls k v pre wr)) (fun _ _ s15 _=>n - (intOf s15).toNat)
 case atStart=>exact ⟨0,_,[],by omega,rfl,HCO⟩
 case round =>
  obtain ⟨k,v,pre,hk,rfl,hC⟩:=hrel
  clear HCO
  by_cases hlt:k<n
  ·have hki:(k:Int)<(n:Int):=by omega
   obtain ⟨b,off,a',n',c',rfl,hbl,hc,hic,_⟩:=(HRC.out.mono hC.out.base).2 k hlt
   have hm:ls[k]?.getD []∈ls:=by
    rw[List.getElem?_eq_getElem (by rw[HLL.out];exact hlt)]
    exact List.getElem_mem _
   obtain ⟨l1,l2,l3,l4⟩:=HL.out _ hm
   have HT:Hid (ls.take (k+1)=ls.take k++[ls[k]?.getD []]):=by
    unfold Hid
    rw[List.take_add_one,List.getElem?_eq_getElem (by rw[HLL.out];exact hlt)];rfl
   have HG:Hid (∀s,txtG ls (k+1) s=if s=textK (ls[k]?.getD []) then true else txtG ls k s):=fun s=>txtG_succ ls k s
   have HNW:=Lib.hid (HD.out k hlt)
   generalize ls[k]?.getD []=l at hic l1 l2 l3 l4 HT HG HNW
   have hln:=hic.len
   subst hln
   obtain ⟨b2,o2,rfl,hb2,_⟩:=hic.2 0 (by omega)
   have HIC:=Lib.hid hic
   have HL3:=Lib.hid l3
   have HKO:=Lib.hid (key_text l l3 l2)
   have HL4:=Lib.hid l4
   clear l3 l4 hic hm
   go_upto_region 6 with fail
   have HV:=Lib.hid (values_c (some ⟨b2,o2,none⟩) l.length c' wr)
   have HSO:Hid (∀W1,W1=wr.alloc (.cells #[.slice (some ⟨b2,o2,none⟩) l.length c'] 22)→Calls Tryz.prog 65 #[.func (.func 75) #[] #[.pointer (some ⟨wr.heap.size,0,none⟩)]] W1 fun e w'=>(∃v,e = .returned v∧w'.ownsRow W1.heap.size 3 1 v l.length (l.map (Value.int .i64)))∧Below W1.heap.size W1 w'):=fun W1 e1=>by
    have hb1:Below wr.heap.size wr W1:=by rw[e1];exact (Below.refl _ _).alloc (Nat.le_refl _) _
    have h:=sorted_c wr.heap.size b2 o2 c' l (by omega) l1 W1 (by rw[e1];simp) (Nat.lt_of_lt_of_le hb2 hb1.size) (by rw[e1];exact box_cells wr #[.slice (some ⟨b2,o2,none⟩) l.length c'] 22 0) (fun j hj=>by
     obtain ⟨b3,o3,e3,hl3,hc3⟩:=(HIC.out.mono hb1).2 j hj
     cases e3
     exact hc3)
    rw[HL4.out] at h
    exact h
   have hwz:=hC.out.base.size
   obtain ⟨k1,k2,k3,k4,k5,k6⟩:=hC.out.blk
   obtain ⟨av,cv,hv⟩:=owns_shape hC.out.rows.1
   subst hv
   have hpl:pre.length≤1000:=by rw[hC.out.len];omega
   go_upto_region 10 with (first|(go_at_call 66;refine HV.out.mono ?_;rintro _ W1 ⟨rfl,hw1⟩;have hb1:Below wr.heap.size wr W1:=(by rw[hw1];exact (Below.refl _ _).alloc (Nat.le_refl _) _);have HW1:=Lib.hid (HSO.out _ hw1);clear hw1)|(go_at_call 65;refine HW1.out.mono ?_;rintro _ w2 ⟨⟨v2,rfl,hown2⟩,hb2'⟩;obtain ⟨a2,c2,rfl⟩:=owns_shape hown2;have HT2:=Lib.hid (ltext_c a2 l.length c2 l w2 (IC.of_owns hown2 (by omega)).1 l1 l2 HL3.out))|(go_at_call 67;refine HT2.out.mono ?_;rintro _ w3 ⟨rfl,hb3⟩;have hbb:Below wr.heap.size wr w3:=keep_trans hb1 (keep_trans hb2' hb3);have hM3:=hC.out.map.mono hbb hC.out.map.lt)|(refine wpList_lookB _ rfl _ _ 104 rfl 9 4 keyed_txt Tryz.underlying104 Tryz.underlying4 (zero_boolT _) Lit.string bm k (txtG ls k) rfl hM3 _ (textK l) rfl HKO.out ?_;rw[HNW.out])|(refine wpList_putB _ rfl _ _ _ 104 rfl 9 4 keyed_txt Tryz.underlying104 Tryz.underlying4 Lit.string (fun x y h=>by injection h) bm k (txtG ls k) rfl hM3 (by unfold maxLen;omega) _ (textK l) true rfl rfl HKO.out ?_;intro w6 hM6 hg6)|fail)
   have hst6:Stays (fun k=>k=bm) w3 w6:=Stays.grown hg6 (fun j e=>by cases e;rfl)
   have hq6:=hst6.q (keepq hbb hC.out.box) (by omega)
   have hR6:=(hC.out.rows.below hbb).stayS hst6 (fun j e=>by omega)
   have hx6:w6.ownsRow W1.heap.size 3 1 (.slice a2 l.length c2) l.length (l.map (Value.int .i64)):=owns_keep (owns_keep hown2 (fun j _ hl=>hb3.block j hl)) (fun j e hl=>hst6.block j hl (fun e2=>by have h3:=(hown2.lt j e).1;have h4:=hb1.size;have e3:j=bm:=e2;omega))
   have hB6:=hst6.below' (B:=w.heap.size) (w0:=w) (by have:=hbb.size;omega) (keep_trans hC.out.base hbb) (fun j e=>by have e3:j=bm:=e;omega)
   have hz6:W1.heap.size≤w6.heap.size:=Nat.le_trans hb2'.size (Nat.le_trans hb3.size hst6.size)
   have hzz:wr.heap.size≤W1.heap.size:=hb1.size
   have HVB:Hid (∀j,(Value.slice av pre.length cv).ownBlock=some j→j<W1.heap.size):=fun j e=>by have:=(hC.out.rows.1.lt j e).2;omega
   have b0:w6.cell? ⟨bm+1,1,none⟩=some (.slice av pre.length cv):=q_cell hq6 1
   have bl:=q_lt hq6
   have hM6':MapB w6 Tryz.prog 9 4 Lit.string bm (k+1) (txtG ls (k+1)):=by
    rw[show txtG ls (k+1)=(fun z=>if z=textK l then true else txtG ls k z) from funext HG.out]
    exact hM6
   have HM6:=Lib.hid hM6'
   have HQ6:=Lib.hid hq6
   have hbb2:=Lib.hid hbb
   clear hM6 hM6' hM3 hg6 hbb hq6
   go_wp2_with (first|(at_builtin;refine wpList_append_own2 _ rfl _ _ 28 rfl 22 i0 (.slice none 0 0) 1 24 Tryz.underlying28 hi hz0 hz1 hz2 rfl (by decide) _ _ _ rfl (owns_base (hR6.1.alloc _) (Nat.zero_le _)) ⟨w6.heap.size,0,none⟩ 1 1 [.slice a2 l.length c2] rfl rfl (cell_one_new _ _ _) (by simp[Value.oneCell']) (by unfold maxLen;omega) (by omega) ?_;intro v7 w7 hown7 hgr7 hk7;have hq7:=(grow_stays hgr7).q HQ6.out (fun e=>by have:=(hR6.1.lt _ e).1;omega);have b7:w7.cell? ⟨bm+1,1,none⟩=some (.slice av pre.length cv):=q_cell hq7 1;obtain ⟨a7,c7,hv7⟩:=owns_shape hown7;subst hv7;have f7:=q_free hq7 1;have l7:=q_lt hq7)|fail)
   have hs7:=grow_stays hgr7
   have hs7':Stays (fun k=>(Value.slice av pre.length cv).ownBlock=some k) (w6.alloc (.cells #[.slice a2 l.length c2] 22)) w7:=Stays.grown hgr7 (fun k e=>e)
   have hown7L:=own_lft hown7 (L:=Z) (fun j e=>(hk7 j e).elim (fun e2=>(hR6.1.lt j e2).1) (fun h=>by simp at h;omega))
   have hRN:=lrow_push (xl:=l) hR6 hx6 (by omega) HVB.out hown7L hs7' hk7
   have hRN2:=hRN.stayS (Stays.setCell (S:=fun k=>k=bm+1) w7 (p:=⟨bm+1,1,none⟩) rfl (.slice a7 (pre.length+1) c7)) (fun j e=>by have e3:j=bm+1:=e;omega)
   have hBN:=(hs7.below' (B:=w.heap.size) (w0:=w) (by omega) hB6 (fun j e=>by have:=(hR6.1.lt j e).1;omega)).setCell (p:=⟨bm+1,1,none⟩) (by omega) (.slice a7 (pre.length+1) c7)
   have hMN:MapB (w7.setCell ⟨bm+1,1,none⟩ (.slice a7 (pre.length+1) c7)) Tryz.prog 9 4 Lit.string bm (k+1) (txtG ls (k+1)):=by
    refine (HM6.out.block (hs7.block bm HM6.out.lt (fun e=>by have:=(hR6.1.lt _ e).1;omega))).block ?_
    exact Below.heap_setCell _ _ _ _ (by omega)
   refine ⟨⟨k+1,_,pre++[(_,l)],by omega,by go_num,⟨hMN,q_set (i:=1) hq7 _,hRN2,?_,by rw[List.length_append,hC.out.len];rfl,hBN,q_other (hs7.q (hst6.q (keepq hbb2.out hC.out.res) (fun e=>by have e3:w.heap.size=bm:=e;omega)) (fun e=>by have:=(hR6.1.lt _ e).1;omega)) (by omega) _,k1,k2,k3,k4,k5,?_⟩⟩,by simp[intOf];omega⟩
   ·rw[List.map_append,hC.out.snd,HT.out];rfl
   ·have:=hs7.size
    have h2:(w7.setCell ⟨bm+1,1,none⟩ (.slice a7 (pre.length+1) c7)).heap.size=w7.heap.size:=by simp[World.setCell]
    omega
  ·have e:n=k:=by omega
   subst e
   have hS:=hC.out.snd
   rw[show ls.take n=ls from List.take_of_length_le (by rw[HLL.out];exact Nat.le_refl _)] at hS
   have HS:=Lib.hid hS
   obtain ⟨k1,k2,k3,k4,k5,k6⟩:=hC.out.blk
   obtain ⟨av,cv,hv⟩:=owns_shape hC.out.rows.1
   subst hv
   have b0:wr.cell? ⟨bm+1,0,none⟩=some (.int .i64 N):=q_cell hC.out.box 0
   have b1:wr.cell? ⟨bm+1,1,none⟩=some (.slice av pre.length cv):=q_cell hC.out.box 1
   have bl:=q_lt hC.out.box
   have r0:=q_free hC.out.res 0
   have r1:=q_free hC.out.res 1
   have rl:=q_lt hC.out.res
   have c0:wr.cell? ⟨w.heap.size,0,none⟩=some (.int .i64 0):=q_cell hC.out.res 0
   have c1:wr.cell? ⟨w.heap.size,1,none⟩=some (.slice none 0 0):=q_cell hC.out.res 1
   have hst:=q_set (i:=1) (q_set (i:=0) hC.out.res (.int .i64 N)) (.slice av pre.length cv)
   have hR:=(((hC.out.rows.stayS (Stays.setCell (S:=fun k=>k=w.heap.size) wr (p:=⟨w.heap.size,0,none⟩) rfl (.int .i64 N)) (fun j e=>by have e3:j=w.heap.size:=e;omega)).stayS (Stays.setCell (S:=fun k=>k=w.heap.size) _ (p:=⟨w.heap.size,1,none⟩) rfl (.slice av pre.length cv)) (fun j e=>by have e3:j=w.heap.size:=e;omega)).base (L':=w.heap.size) (by omega))
   have hBF:=(hC.out.base.setCell (p:=⟨w.heap.size,0,none⟩) (Nat.le_refl _) (.int .i64 N)).setCell (p:=⟨w.heap.size,1,none⟩) (Nat.le_refl _) (.slice av pre.length cv)
   have HST:=Lib.hid hst
   have HR:=Lib.hid hR
   have HBF:=Lib.hid hBF
   clear hst hR hS hBF
   go_wp2_with fail
   clear c0 c1 b0 b1
   have z0:=q_cell HST.out 0
   have z1:=q_cell HST.out 1
   refine bodyPost_ret (v := .agg #[.int .i64 N,.slice av pre.length cv]) ?_ rfl ⟨_,pre,rfl,HR.out,HS.out,HBF.out⟩
   simp[results,Tryz.f52,go_sem,z0,z1]
end
section
open Go Go.RowKit Go.Maps
attribute [local go_sem] over_cell
attribute [local go_sem] Oper.semAt_some
theorem dec1 {u:Nat} (h:u<10):Lib.decDigits u=[UInt8.ofNat (48+u)]:=by
 unfold Lib.decDigits
 rw[dif_pos h]
theorem textK3 {a b c:Nat} (ha:a<10) (hb:b<10) (hc:c<10):textK [(a:Int),(b:Int),(c:Int)]=[UInt8.ofNat (48+a),32,UInt8.ofNat (48+b),32,UInt8.ofNat (48+c)]:=by
 have e:∀u:Nat,u<10→(strN (u:Int)).data.toList=[UInt8.ofNat (48+u)]:=fun u hu=>by
  show Lib.decDigits ((u:Int).toNat)=_
  rw[Int.toNat_natCast,dec1 hu]
 unfold textK
 simp only[List.map_cons,List.map_nil]
 rw[e a ha,e b hb,e c hc]
 rfl
def semi3:List (List Int):=[[0,1,2],[3,4,5],[6,7,8],[0,3,6],[1,4,7],[2,5,8]]
def semi3T (i:Nat):List UInt8:=[[48,32,49,32,50],[51,32,52,32,53],[54,32,55,32,56],[48,32,51,32,54],[49,32,52,32,55],[50,32,53,32,56]][i]?.getD []
theorem semi3_text:∀i,i<6→textK (semi3[i]?.getD [])=semi3T i:=by
 intro i hi
 match i,hi with
 | 0,_=>exact textK3 (a:=0) (b:=1) (c:=2) (by omega) (by omega) (by omega)
 | 1,_=>exact textK3 (a:=3) (b:=4) (c:=5) (by omega) (by omega) (by omega)
 | 2,_=>exact textK3 (a:=6) (b:=7) (c:=8) (by omega) (by omega) (by omega)
 | 3,_=>exact textK3 (a:=0) (b:=3) (c:=6) (by omega) (by omega) (by omega)
 | 4,_=>exact textK3 (a:=1) (b:=4) (c:=7) (by omega) (by omega) (by omega)
 | 5,_=>exact textK3 (a:=2) (b:=5) (c:=8) (by omega) (by omega) (by omega)
theorem semi3T_inj:∀i,i<6→∀j,j<6→semi3T i=semi3T j→i=j:=by decide
theorem semi3_dist:∀i j,i<6→j<6→textK (semi3[i]?.getD [])=textK (semi3[j]?.getD [])→i=j:=fun i j hi hj e=>by
 rw[semi3_text i hi,semi3_text j hj] at e
 exact semi3T_inj i hi j hj e
theorem semi3_ok:∀l,l∈semi3→1≤l.length∧l.length≤1000∧(∀x,x∈l→0≤x∧x<100)∧l.mergeSort (fun x y=>decide (x≤y))=l:=by
 intro l hl
 have h1:∀l,l∈semi3→1≤l.length∧l.length≤1000∧(∀x,x∈l→0≤x∧x<100):=by decide
 have h2:∀l,l∈semi3→l.Pairwise (fun x y=>(decide (x≤y))=true):=by decide
 obtain ⟨a,b,c⟩:=h1 l hl
 exact ⟨a,b,c,List.mergeSort_of_pairwise (h2 l hl)⟩
theorem rows_sl {W:World} {L n:Nat} {v:Value} {pre:List (Value × List Int)} {ls:List (List Int)} (h:RowsI W noB L v pre) (hs:pre.map Prod.snd=ls) (hn:ls.length=n) (hm:n≤1000) (hl:∀l,l∈ls→l.length≤1000):∃a c,v = .slice a n c∧RC W a n ls∧n≤c:=by
 have hp:pre.length=n:=by rw[← hn,← hs,List.length_map]
 obtain ⟨a,c,e,h1,h2⟩:=h.rc (by omega) (fun x hx=>by
  have:=hl x.2 (by rw[← hs];exact List.mem_map.2 ⟨x,hx,rfl⟩)
  omega)
 rw[hp,hs] at *
 exact ⟨a,c,e,h1,h2⟩
theorem lrows3_len:∀l,l∈lrowsL 3→l.length≤1000:=by decide
theorem lcols3_len:∀l,l∈lcolsL 3→l.length≤1000:=by decide
theorem concat3_c (a1 a2:Option Addr) (c1 c2:Nat) (w:World) (h1:RC w a1 3 (lrowsL 3)) (h2:RC w a2 3 (lcolsL 3)) :
  Calls Tryz.prog 48 #[.slice (some ⟨w.heap.size,0,none⟩) 2 2] (w.alloc (.cells #[.slice a1 3 c1,.slice a2 3 c2] 28)) fun e w'=>∃a c,e = .returned (.slice a 6 c)∧RC w' a 6 semi3∧Below w.heap.size w w':=by
 have hb:Below w.heap.size w (w.alloc (.cells #[.slice a1 3 c1,.slice a2 3 c2] 28)):=(Below.refl _ _).alloc (Nat.le_refl _) _
 have hx:catX (fun k=>if k=0 then lrowsL 3 else lcolsL 3) 2=semi3:=by decide
 have:=rconcat_c w.heap.size 2 2 (fun k=>if k=0 then a1 else a2) (fun _=>3) (fun k=>if k=0 then c1 else c2) (fun k=>if k=0 then lrowsL 3 else lcolsL 3) (w.alloc (.cells #[.slice a1 3 c1,.slice a2 3 c2] 28)) (by simp)
  (fun k hk=>by
   have:=box_cells w #[.slice a1 3 c1,.slice a2 3 c2] 28 k
   match k,hk with
   | 0,_=>exact this
   | 1,_=>exact this)
  (fun k hk=>by
   match k,hk with
   | 0,_=>exact h1.mono hb
   | 1,_=>exact h2.mono hb) (by omega) (by rw[hx];decide)
 rw[hx] at this
 refine this.mono ?_
 rintro e w' ⟨v,vs,rfl,hown,hrv,hb2⟩
 obtain ⟨a,c,rfl⟩:=owns_shape hown
 refine ⟨a,c,rfl,?_,keep_trans hb hb2⟩
 have:=rc_of_rv hown hrv (by decide)
 exact this.1
theorem lsquare3_c (w:World):Calls Tryz.prog 32 #[.string ⟨#[115,101,109,105,109,97,103,105,99]⟩,.int .i64 3] w fun e w'=>∃v pre,e = .returned (.agg #[.int .i64 9,v])∧RowsI w' noB w.heap.size v pre∧pre.map Prod.snd=semi3∧Below w.heap.size w w':=by
 go_enter Tryz.func32,Tryz.ntmps32
 go_upto_region 1 with fail
 have fsz:(w.alloc (.cells #[.int .i64 0,.slice none 0 0] 44)).heap.size=w.heap.size+1:=by simp only[World.size_alloc]
 have fB:Below w.heap.size w (w.alloc (.cells #[.int .i64 0,.slice none 0 0] 44)):=(Below.refl _ _).alloc (Nat.le_refl _) _
 have fq0:(w.alloc (.cells #[.int .i64 0,.slice none 0 0] 44)).heap[w.heap.size]?=some (.cells #[.int .i64 0,.slice none 0 0] 44 (0,0)):=by have h:=World.alloc_heap_new w (.cells #[.int .i64 0,.slice none 0 0] 44);exact h
 generalize (w.alloc (.cells #[.int .i64 0,.slice none 0 0] 44))=W0 at fsz fB fq0 ⊢
 have Q0:=Lib.hid fq0
 have FB:=Lib.hid fB
 have HR:=Lib.hid (lrows_c 3 (by omega) W0)
 have HCL:=Lib.hid (fun W=>lcolumns_c 3 (by omega) W)
 have HCT:=Lib.hid (fun a1 a2 c1 c2 W h1 h2=>concat3_c a1 a2 c1 c2 W h1 h2)
 have HCO:=Lib.hid (fun a c W (h:RC W a 6 semi3)=>lcollect_c 9 a 6 c semi3 W h (by omega) semi3_ok semi3_dist)
 clear fq0 fsz fB
 go_upto_region 17 with (first|(go_at_call 49;refine HR.out.mono ?_;rintro _ w1 ⟨v1,p1,rfl,hR1,hs1,hb1⟩;obtain ⟨a1,c1,rfl,hrc1,_⟩:=rows_sl hR1 hs1 (n:=3) rfl (by omega) lrows3_len;have HRC1:=Lib.hid hrc1;clear hs1 hrc1)|(go_at_call 50;refine (HCL.out w1).mono ?_;rintro _ w2 ⟨v2,p2,rfl,hR2,hs2,hb2⟩;obtain ⟨a2,c2,rfl,hrc2,_⟩:=rows_sl hR2 hs2 (n:=3) rfl (by omega) lcols3_len;have HC3:=Lib.hid (HCT.out a1 a2 c1 c2 w2 (HRC1.out.mono hb2) hrc2);clear hs2 hrc2)|(go_at_call 48;refine HC3.out.mono ?_;rintro _ w3 ⟨a3,c3,rfl,hrc3,hb3⟩;have HC4:=Lib.hid (HCO.out a3 c3 w3 hrc3);clear hrc3)|fail)
 have hbw:Below W0.heap.size W0 w3:=keep_trans hb1 (keep_trans hb2 hb3)
 have HBW:=Lib.hid hbw
 clear hbw hR1 hR2
 go_wp2_with (first|(go_at_call 52;refine HC4.out.mono ?_;rintro _ w4 ⟨v4,p4,rfl,hR4,hs4,hb4⟩;have HS4:=Lib.hid hs4;have hq4:=keepq (keep_trans HBW.out hb4) Q0.out;have c0:w4.cell? ⟨w.heap.size,0,none⟩=some (.int .i64 0):=q_cell hq4 0;have c1:w4.cell? ⟨w.heap.size,1,none⟩=some (.slice none 0 0):=q_cell hq4 1;have r0:=q_free hq4 0;have r1:=q_free hq4 1;have rl:=q_lt hq4;obtain ⟨a4,c4,hv4⟩:=owns_shape hR4.1;subst hv4;have HQ4:=Lib.hid hq4;clear hs4 hq4)|fail)
 have hst:=q_set (i:=1) (q_set (i:=0) HQ4.out (.int .i64 9)) (.slice a4 p4.length c4)
 have hw0:w.heap.size<W0.heap.size:=q_lt Q0.out
 have h04:W0.heap.size≤w3.heap.size:=HBW.out.size
 have hR:=(((hR4.stayS (Stays.setCell (S:=fun k=>k=w.heap.size) w4 (p:=⟨w.heap.size,0,none⟩) rfl (.int .i64 9)) (fun j e=>by have e3:j=w.heap.size:=e;omega)).stayS (Stays.setCell (S:=fun k=>k=w.heap.size) _ (p:=⟨w.heap.size,1,none⟩) rfl (.slice a4 p4.length c4)) (fun j e=>by have e3:j=w.heap.size:=e;omega)).base (L':=w.heap.size) (by omega))
 have hBF:=((keep_trans FB.out (keep_trans HBW.out hb4)).setCell (p:=⟨w.heap.size,0,none⟩) (Nat.le_refl _) (.int .i64 9)).setCell (p:=⟨w.heap.size,1,none⟩) (Nat.le_refl _) (.slice a4 p4.length c4)
 have z0:=q_cell hst 0
 have z1:=q_cell hst 1
 refine bodyPost_ret (v := .agg #[.int .i64 9,.slice a4 p4.length c4]) ?_ rfl ⟨_,p4,rfl,hR,HS4.out,hBF⟩
 simp[results,Tryz.f32,go_sem,z0,z1]
end
section
open Go Go.RowKit Go.Maps
attribute [local go_sem] over_cell
attribute [local go_sem] Oper.semAt_some
def kSemi:ByteArray:=⟨#[115,101,109,105,109,97,103,105,99]⟩
def kMagi:ByteArray:=⟨#[109,97,103,105,99]⟩
def kPand:ByteArray:=⟨#[112,97,110,100,105,97,103,111,110,97,108]⟩
theorem semi_known:anyP (fun k=>isK kSemi (([kSemi,kMagi,kPand]:List ByteArray)[k]?.getD ⟨#[]⟩)) 3=true:=by decide +kernel
theorem from_three:whenV (anyP (fun k=>outB 1 16 (([3]:List Int)[k]?.getD 0)) 1) 3=0:=by decide
theorem has_semi_c (w:World):Calls Tryz.prog 28 #[.slice (some ⟨w.heap.size,0,none⟩) 3 3,.string ⟨#[115,101,109,105,109,97,103,105,99]⟩] (w.alloc (.cells #[.string ⟨#[115,101,109,105,109,97,103,105,99]⟩,.string ⟨#[109,97,103,105,99]⟩,.string ⟨#[112,97,110,100,105,97,103,111,110,97,108]⟩] 9)) fun e w'=>e = .returned (.bool true)∧w.alloc (.cells #[.string ⟨#[115,101,109,105,109,97,103,105,99]⟩,.string ⟨#[109,97,103,105,99]⟩,.string ⟨#[112,97,110,100,105,97,103,111,110,97,108]⟩] 9)=w':=by
 have:=scontains_c (some ⟨w.heap.size,0,none⟩) 3 3 _ kSemi (w.alloc (.cells #[.string kSemi,.string kMagi,.string kPand] 9)) (StC.new3 w kSemi kMagi kPand 9)
 rw[semi_known] at this
 exact this
theorem from3_c (w:World):Calls Tryz.prog 31 #[.int .i64 1,.int .i64 16,.slice (some ⟨w.heap.size,0,none⟩) 1 1] (w.alloc (.cells #[.int .i64 3] 3)) fun e w'=>e = .returned (.int .i64 0)∧Below (w.alloc (.cells #[.int .i64 3] 3)).heap.size (w.alloc (.cells #[.int .i64 3] 3)) w':=by
 have:=from_c (some ⟨w.heap.size,0,none⟩) 1 1 [3] 1 16 (w.alloc (.cells #[.int .i64 3] 3)) (IC.new1 w 3 3)
 rw[from_three] at this
 exact this
theorem first00_c (w:World):Calls Tryz.prog 29 #[.slice (some ⟨w.heap.size,0,none⟩) 2 2] (w.alloc (.cells #[.int .i64 0,.int .i64 0] 32)) fun e w'=>e = .returned (.int .i64 0)∧w.alloc (.cells #[.int .i64 0,.int .i64 0] 32)=w':=lfirst_c (some ⟨w.heap.size,0,none⟩) 2 2 [0,0] (w.alloc (.cells #[.int .i64 0,.int .i64 0] 32)) (IC.new2 w 0 0 32)
theorem when13_c (w:World):Calls Tryz.prog 30 #[.bool false,.int .i64 13] w fun e w'=>e = .returned (.int .i64 0)∧w=w':=lwhen_c false 13 w
theorem ssys3_c (w:World):Calls Tryz.prog 12 #[.string ⟨#[115,101,109,105,109,97,103,105,99]⟩,.int .i64 3] w fun e w'=>∃v pre,e = .returned (.tuple #[.agg #[.int .i64 9,v],.int .i64 0])∧RowsI w' noB w.heap.size v pre∧pre.map Prod.snd=semi3∧Below w.heap.size w w':=by
 have HS:=Lib.hid (fun W=>lsquare3_c W)
 have HCO:=Lib.hid (fun W=>has_semi_c W)
 have HFR:=Lib.hid (fun W=>from3_c W)
 have HFI:=Lib.hid (fun W=>first00_c W)
 go_enter Tryz.func12,Tryz.ntmps12
 go_upto_region 1 with fail
 have fsz:(w.alloc (.cells #[.int .i64 0,.slice none 0 0] 44)).heap.size=w.heap.size+1:=by simp only[World.size_alloc]
 have fB:Below w.heap.size w (w.alloc (.cells #[.int .i64 0,.slice none 0 0] 44)):=(Below.refl _ _).alloc (Nat.le_refl _) _
 have fq0:(w.alloc (.cells #[.int .i64 0,.slice none 0 0] 44)).heap[w.heap.size]?=some (.cells #[.int .i64 0,.slice none 0 0] 44 (0,0)):=by have h:=World.alloc_heap_new w (.cells #[.int .i64 0,.slice none 0 0] 44);exact h
 generalize (w.alloc (.cells #[.int .i64 0,.slice none 0 0] 44))=W0 at fsz fB fq0 ⊢
 have Q0:=Lib.hid fq0
 have FB:=Lib.hid fB
 clear fq0 fsz fB
 go_upto_region 2 with (first|(go_at_call 28;refine (HCO.out _).mono ?_;rintro _ w1 ⟨rfl,rfl⟩)|fail)
 have hb1:Below W0.heap.size W0 (W0.alloc (.cells #[.string ⟨#[115,101,109,105,109,97,103,105,99]⟩,.string ⟨#[109,97,103,105,99]⟩,.string ⟨#[112,97,110,100,105,97,103,111,110,97,108]⟩] 9)):=(Below.refl _ _).alloc (Nat.le_refl _) _
 generalize (W0.alloc (.cells #[.string ⟨#[115,101,109,105,109,97,103,105,99]⟩,.string ⟨#[109,97,103,105,99]⟩,.string ⟨#[112,97,110,100,105,97,103,111,110,97,108]⟩] 9))=W1 at hb1 ⊢
 have HB1:=Lib.hid hb1
 clear hb1
 go_upto_region 3 with (first|(go_at_call 30;refine (when13_c _).mono ?_;rintro _ w2 ⟨rfl,rfl⟩)|(go_at_call 31;refine (HFR.out _).mono ?_;rintro _ w3 ⟨rfl,hb3⟩)|(go_at_call 29;refine (HFI.out _).mono ?_;rintro _ w4 ⟨rfl,rfl⟩)|fail)
 have hb4:Below W0.heap.size W0 (w3.alloc (.cells #[.int .i64 0,.int .i64 0] 32)):=keep_trans HB1.out (keep_trans ((Below.refl _ _).alloc (Nat.le_refl _) _) (keep_trans hb3 ((Below.refl _ _).alloc (Nat.le_refl _) _)))
 generalize (w3.alloc (.cells #[.int .i64 0,.int .i64 0] 32))=W4 at hb4 ⊢
 have HB4:=Lib.hid hb4
 clear hb4 hb3 HB1
 have HS4:=Lib.hid (HS.out W4)
 go_wp2_with (first|(go_at_call 32;refine HS4.out.mono ?_;rintro _ w5 ⟨v5,p5,rfl,hR5,hs5,hb5⟩;have HS5:=Lib.hid hs5;have hq5:=keepq (keep_trans HB4.out hb5) Q0.out;have c0:w5.cell? ⟨w.heap.size,0,none⟩=some (.int .i64 0):=q_cell hq5 0;have c1:w5.cell? ⟨w.heap.size,1,none⟩=some (.slice none 0 0):=q_cell hq5 1;have r0:=q_free hq5 0;have r1:=q_free hq5 1;have rl:=q_lt hq5;obtain ⟨a5,c5,hv5⟩:=owns_shape hR5.1;subst hv5;have HQ5:=Lib.hid hq5;clear hs5 hq5)|fail)
 have hst:=q_set (i:=1) (q_set (i:=0) HQ5.out (.int .i64 9)) (.slice a5 p5.length c5)
 have hw0:w.heap.size<W0.heap.size:=q_lt Q0.out
 have h04:W0.heap.size≤W4.heap.size:=HB4.out.size
 have hR:=(((hR5.stayS (Stays.setCell (S:=fun k=>k=w.heap.size) w5 (p:=⟨w.heap.size,0,none⟩) rfl (.int .i64 9)) (fun j e=>by have e3:j=w.heap.size:=e;omega)).stayS (Stays.setCell (S:=fun k=>k=w.heap.size) _ (p:=⟨w.heap.size,1,none⟩) rfl (.slice a5 p5.length c5)) (fun j e=>by have e3:j=w.heap.size:=e;omega)).base (L':=w.heap.size) (by omega))
 have hBF:=((keep_trans FB.out (keep_trans HB4.out hb5)).setCell (p:=⟨w.heap.size,0,none⟩) (Nat.le_refl _) (.int .i64 9)).setCell (p:=⟨w.heap.size,1,none⟩) (Nat.le_refl _) (.slice a5 p5.length c5)
 have z0:=q_cell hst 0
 have z1:=q_cell hst 1
 refine bodyPost_ret (v := .tuple #[.agg #[.int .i64 9,.slice a5 p5.length c5],.int .i64 0]) ?_ rfl ⟨_,p5,rfl,hR,HS5.out,hBF⟩
 simp[results,Tryz.f12,go_sem,z0,z1]
end
section
open Go Go.RowKit
variable {P:Program}
def SeqB {α:Type} (P:Program) (g:Nat) (lb:Array Value) (encs:α→Array Value) (Kp:World→World→Prop) (S Pre:List α→Prop) (w0:World):Prop :=
 ∀(l:Nat) (J:List α→World→Prop) (W:World),Below w0.heap.size w0 W→(∀s A B,J s A→Below A.heap.size A B→J s B) →
  (∀pre x W1,J pre W1→Pre (pre++[x])→YieldAt Fence.wide 0 P l (encs x) W1 fun e W'=>e = .returned (.bool true)∧J (pre++[x]) W'∧Kp W1 W') →
  J [] W→Calls P g (#[.func (.yield l) #[] #[]]++lb) W fun e W'=>(∃v,e = .returned v)∧∃xs,S xs∧J xs W'
def postB {α:Type} (B:Nat) (Kp:World→World→Prop) (I:List α→World→Prop) (xs:List α) (W:World):Exit→Act→World→Prop
 | .normal,_,W'=>KeepsFrom B W W'∧Kp W W'∧I xs W'
 | _,_,_=>False
theorem wp_rangeFunc_B {α:Type} {g:Operand} {ps:Array Tmp} {assign body:Code} {Q:Exit→Act→World→Prop} {a:Act} {w:World}
  {gf:Nat} {lb:Array Value} (hg:a.eval g = .func (.func gf) #[] lb) (eg:∀args w,(callFunc gf args).run P w = .ok (.enter gf args) w)
  {encs:α→Array Value} {Kp:World→World→Prop} {S Pre:List α→Prop} (hseq:SeqB P gf lb encs Kp S Pre w)
  (hKt:∀{A B C:World},Kp A B→Kp B C→Kp A C) (hKb:∀(W:World) (l:Nat) (o o':Obj),w.heap.size≤l→W.heap[l]?=some o→o.isCells=false→Kp W (W.putObj l o')) (hKbe:∀A B:World,Below A.heap.size A B→Kp A B) (hps:∀x,(encs x).size=ps.size)
  (I:List α→World→Prop) (hIb:∀s A B,I s A→Below A.heap.size A B→I s B) (hIp:∀s (A:World) (l:Nat) (o o':Obj),I s A→w.heap.size≤l→A.heap[l]?=some o→o.isCells=false→I s (A.putObj l o')) (h0:I [] w) (As:α→World→Act→World→Prop)
  (hassign:∀(l:Nat) (x:α) (W:World) (K:Act→World→Prop),(∀act W',Below W.heap.size W W'→As x W act W'→K act W') →
   assign.wpIn (Fence.wide.inRound l) 0 P (Exit.then K (fun _ _ _=>False)) { tmps:=(ps.zip (encs x)).foldl (fun t (p,v)=>t.setIfInBounds p v) a.tmps,defers:=[] } W)
  (hbody:∀(l:Nat) (pre:List α) (x:α) (W1 Wa W:World) (act:Act),I pre W→As x W1 act Wa→w.heap.size≤W1.heap.size→(∀(b:Nat) (o:Obj),Wa.heap[b]?=some o→o.isCells=true→W.heap[b]?=some o)→Pre (pre++[x])→body.wpIn (Fence.wide.inRound l) 0 P (postB w.heap.size Kp I (pre++[x]) W) act W)
  (hdone:∀(D:Nat) (xs:List α) (W:World),w.heap.size≤D→S xs→I xs W→W.heap[D]?=some (.deferred (some []))→Q .normal { a with defers:={ target := .collected D,args:=#[] } :: a.defers } W) :
  (Code.rangeFunc g ps assign body).wp P Q a w:=by
 refine (wpIn_wide (n:=0)).1 (wpIn_rangeFunc ?_)
 intro fn hfn
 rw[show Fence.wide.round=none from rfl]
 obtain ⟨rec,hrec⟩:∃rec:LoopState→Option Code→Loop,rec=fun st pe=>{ state:=st,pending:=pe,fn,tmps:=a.tmps,params:=ps,assign,body,defers:=w.heap.size }:=⟨_,rfl⟩
 obtain ⟨W1,hW1⟩:∃W1,(w.alloc (.deferred (some []))).alloc (.loop (rec .ready none))=W1:=⟨_,rfl⟩
 have hL1:W1.heap[w.heap.size+1]?=some (.loop (rec .ready none)):=by
  rw[← hW1];have:=World.alloc_heap_new (w.alloc (.deferred (some []))) (.loop (rec .ready none));rwa [World.size_alloc] at this
 have hK1:W1.heap[w.heap.size]?=some (.deferred (some [])):=by
  rw[← hW1];exact (Below.heap_alloc _ _ _ (by simp)).trans (World.alloc_heap_new w _)
 have hb1:Below w.heap.size w W1:=by
  rw[← hW1];exact ((Below.refl _ w).alloc (Nat.le_refl _) _).alloc (by simp) _
 have hI1:I [] W1:=hIb _ _ _ h0 hb1
 refine ⟨w.heap.size+1,[{ target := .collected w.heap.size,args:=#[] }],W1,{ target := .fn (.func gf) lb,args:=#[.func (.yield (w.heap.size+1)) #[] #[]] },W1,gf,
  #[.func (.yield (w.heap.size+1)) #[] #[]]++lb,W1,?_,?_,?_,?_,?_,?_⟩
 ·rw[← hW1,hrec];exact run_enterLoop_outer _ _ _ _ _
 ·simp only[resolve,hg]
  simp[go_sem]
 ·intro f' hf';exact trivial
 ·simp[invoke,go_sem,eg]
 ·intro h;exact absurd h (by simp[Fence.wide])
 ·refine callsIn_wide.2 ?_
  refine (hseq (w.heap.size+1)
   (fun pre W=>I pre W∧W.heap[w.heap.size+1]?=some (.loop (rec .ready none))∧W.heap[w.heap.size]?=some (.deferred (some [])))
   W1 hb1 ?_ ?_ ⟨hI1,hL1,hK1⟩).mono ?_
  ·rintro s A B ⟨hi,hl,hk⟩ hs
   have hlt:=(Array.getElem?_eq_some_iff.1 hl).1
   exact ⟨hIb s A B hi hs,(hs.block _ hlt).trans hl,(hs.block _ (by omega)).trans hk⟩
  ·rintro pre x W ⟨hi,hl,hk⟩ hpre
   have hlt:w.heap.size+1<W.heap.size:=(Array.getElem?_eq_some_iff.1 hl).1
   have hy:=run_yield (P:=P) (args:=encs x) hl (by rw[hrec];exact hps x)
   rw[hrec] at hy
   refine ⟨fn,_,assign,body,hy,roundIn_of_wpIn hfn (hassign _ x W _ (fun act Wa hba has=>?_))⟩
   have hla:Wa.heap[w.heap.size+1]?=some (.loop (rec .ready none)):=(hba.block _ hlt).trans hl
   have hlta:w.heap.size+1<Wa.heap.size:=(Array.getElem?_eq_some_iff.1 hla).1
   have hka:Wa.heap[w.heap.size]?=some (.deferred (some [])):=(hba.block _ (by omega)).trans hk
   refine ⟨_,run_beginRound hla (by rw[hrec]),?_⟩
   have hl2:(Wa.putObj (w.heap.size+1) (.loop { rec .ready none with state := .busy })).heap[w.heap.size+1]?=some (.loop { rec .ready none with state := .busy }):=World.putObj_heap_same hlta
   have hk2:(Wa.putObj (w.heap.size+1) (.loop { rec .ready none with state := .busy })).heap[w.heap.size]?=some (.deferred (some [])):=(World.putObj_heap_other (by omega)).trans hka
   have hw2:Kp W (Wa.putObj (w.heap.size+1) (.loop { rec .ready none with state := .busy })):=hKt (hKbe _ _ hba) (hKb _ _ _ _ (by omega) hla rfl)
   have hcl:∀(b:Nat) (o:Obj),Wa.heap[b]?=some o→o.isCells=true→(Wa.putObj (w.heap.size+1) (.loop { rec .ready none with state := .busy })).heap[b]?=some o:=fun b o hb ho=>by
    refine (World.putObj_heap_other (fun e=>?_)).trans hb
    subst e
    rw[hb] at hla
    cases hla
    cases ho
   refine wpIn_mono (hbody _ pre x W Wa _ act (hIp _ _ _ _ _ (hIb _ _ _ hi hba) (by omega) hla rfl) has (by omega) hcl hpre) ?_
   rintro e a3 W3 hp
   cases e with
   | normal =>
    obtain ⟨hk3,hkp3,hi3⟩:=hp
    have hl3:=hk3.same _ _ (by omega) hl2 rfl
    have hr:=run_endRound (P:=P) none hl3
    rw[hrec] at hl3
    have hl4:(W3.putObj (w.heap.size+1) (.loop (rec .ready none))).heap[w.heap.size+1]?=some (.loop (rec .ready none)):=World.putObj_heap_same (Array.getElem?_eq_some_iff.1 hl3).1
    have hk4:(W3.putObj (w.heap.size+1) (.loop (rec .ready none))).heap[w.heap.size]?=some (.deferred (some [])):=(World.putObj_heap_other (by omega)).trans (hk3.same _ _ (Nat.le_refl _) hk2 rfl)
    refine ⟨_,W3.putObj (w.heap.size+1) (.loop (rec .ready none)),?_,rfl,⟨hIp _ _ _ _ _ hi3 (by omega) hl3 rfl,hl4,hk4⟩,hKt (hKt hw2 hkp3) (hKb _ _ _ _ (by omega) hl3 rfl)⟩
    rw[hrec] at hr ⊢
    exact hr
   | ret=>exact hp.elim
   | exit id=>exact hp.elim
   | goto t=>exact hp.elim
   | panic ch=>exact hp.elim
   | outgrown=>exact hp.elim
  ·rintro e W2 ⟨⟨v,rfl⟩,⟨xs,hS,hi,hl,hk⟩⟩
   exact ⟨none,_,by have:=run_endLoop (P:=P) hl (by rw[hrec];simp);rw[hrec] at this;exact this,hdone _ xs _ (Nat.le_refl _) hS (hIp _ _ _ _ _ hi (by omega) hl rfl) ((World.putObj_heap_other (by omega)).trans hk)⟩
end
section
open Go Go.RowKit Go.Maps Go.WideMaps
def lessF (T:List Int) (r:Nat→Int) (x:Int) (i:Nat):Int:=if T.contains (i:Int) then r i - x else r i
def chF (T E:List Int) (r:Nat→Int):Nat→Nat→List (Nat × (Nat→Int))
 | 0,_=>[]
 | k+1,x=>if T.any (fun i=>decide (r i.toNat - (x:Int)<0)) then [] else (if E.any (fun i=>decide (0<lessF T r x i.toNat)) then [] else [(x,lessF T r x)])++chF T E r k (x+1)
def chA (T E:List Int) (r:Nat→Int):List (Nat × (Nat→Int)):=chF T E r 26 0
def cntF (Th En:Nat→List Int):Nat→Nat→(Nat→Int)→Nat
 | 0,_,_=>1
 | k+1,c,r=>((chA (Th c) (En c) r).map fun p=>cntF Th En k (c+1) p.2).sum
def okLn (T:List Int):Prop:=∀i,i∈T→0≤i∧i<12
def okR (r:Nat→Int):Prop:=∀i,i<12→0≤r i∧r i≤24
def sameR (r r':Nat→Int):Prop:=∀i,i<12→r i=r' i
theorem lessF_congr {T:List Int} {r r':Nat→Int} (h:sameR r r') (x:Int):sameR (lessF T r x) (lessF T r' x):=fun i hi=>by
 unfold lessF;rw[h i hi]
theorem any_congr_in {α:Type} {l:List α} {f g:α→Bool} (h:∀x,x∈l→f x=g x):l.any f=l.any g:=by
 induction l with
 | nil=>rfl
 | cons a l ih=>rw[List.any_cons,List.any_cons,h a List.mem_cons_self,ih (fun x hx=>h x (List.mem_cons_of_mem _ hx))]
theorem chF_congr {T E:List Int} (hT:okLn T) (hE:okLn E) {r r':Nat→Int} (h:sameR r r'):∀k x,(chF T E r k x).length=(chF T E r' k x).length∧∀j:Nat,(chF T E r k x)[j]?.map (·.1)=(chF T E r' k x)[j]?.map (·.1)∧∀p p',(chF T E r k x)[j]?=some p→(chF T E r' k x)[j]?=some p'→sameR p.2 p'.2:=by
 intro k
 induction k with
 | zero=>intro x;exact ⟨rfl,fun j=>⟨rfl,fun p p' e=>by simp[chF] at e⟩⟩
 | succ k ih =>
  intro x
  have e1:T.any (fun i=>decide (r i.toNat - (x:Int)<0))=T.any (fun i=>decide (r' i.toNat - (x:Int)<0)):=any_congr_in fun i hi=>by
   have:=hT i hi
   rw[h i.toNat (by omega)]
  have e2:E.any (fun i=>decide (0<lessF T r x i.toNat))=E.any (fun i=>decide (0<lessF T r' x i.toNat)):=any_congr_in fun i hi=>by
   have:=hE i hi
   rw[lessF_congr h x i.toNat (by omega)]
  unfold chF
  rw[e1,e2]
  split
  ·exact ⟨rfl,fun j=>⟨rfl,fun p p' e=>by simp at e⟩⟩
  ·split
   ·exact ih (x+1)
   ·obtain ⟨i1,i2⟩:=ih (x+1)
    refine ⟨by rw[List.length_append,List.length_append,i1];rfl,fun j=>?_⟩
    cases j with
    | zero=>exact ⟨rfl,fun p p' e e'=>by cases e;cases e';exact lessF_congr h x⟩
    | succ j=>exact i2 j
theorem cntF_congr {Th En:Nat→List Int} (hT:∀c,okLn (Th c)) (hE:∀c,okLn (En c)):∀k c {r r':Nat→Int},sameR r r'→cntF Th En k c r=cntF Th En k c r':=by
 intro k
 induction k with
 | zero=>intro c r r' _;rfl
 | succ k ih =>
  intro c r r' h
  unfold cntF chA
  obtain ⟨h1,h2⟩:=chF_congr (hT c) (hE c) h 26 0
  congr 1
  apply List.ext_getElem?
  intro j
  rw[List.getElem?_map,List.getElem?_map]
  cases hj:(chF (Th c) (En c) r 26 0)[j]? with
  | none =>
   have:=List.getElem?_eq_none_iff.1 hj
   rw[List.getElem?_eq_none (by omega)]
  | some p =>
   obtain ⟨hl,_⟩:=List.getElem?_eq_some_iff.1 hj
   cases hj':(chF (Th c) (En c) r' 26 0)[j]? with
   | none =>
    have:=List.getElem?_eq_none_iff.1 hj'
    omega
   | some p' =>
    exact congrArg some (ih (c+1) ((h2 j).2 p p' hj hj'))
theorem chF_len (T E:List Int) (r:Nat→Int):∀k x,(chF T E r k x).length≤k:=by
 intro k
 induction k with
 | zero=>intro x;exact Nat.le_refl _
 | succ k ih =>
  intro x
  unfold chF
  have:=ih (x+1)
  split
  ·simp
  ·rw[List.length_append]
   split <;> simp <;> omega
theorem sum_le_mul {l:List Nat} {b:Nat} (h:∀x,x∈l→x≤b):l.sum≤l.length*b:=by
 induction l with
 | nil=>simp
 | cons a l ih =>
  rw[List.sum_cons,List.length_cons,Nat.add_mul]
  have h1:=h a List.mem_cons_self
  have h2:=ih (fun x hx=>h x (List.mem_cons_of_mem _ hx))
  omega
theorem cntF_le (Th En:Nat→List Int):∀k c r,cntF Th En k c r≤26 ^ k:=by
 intro k
 induction k with
 | zero=>intro c r;exact Nat.le_refl _
 | succ k ih =>
  intro c r
  unfold cntF
  have h1:((chA (Th c) (En c) r).map fun p=>cntF Th En k (c+1) p.2).sum≤((chA (Th c) (En c) r).map fun p=>cntF Th En k (c+1) p.2).length*26 ^ k:=sum_le_mul fun x hx=>by
   obtain ⟨p,_,rfl⟩:=List.mem_map.1 hx
   exact ih _ _
  rw[List.length_map] at h1
  have h2:(chA (Th c) (En c) r).length≤26:=chF_len _ _ _ 26 0
  have h3:=Nat.mul_le_mul_right (26 ^ k) h2
  rw[Nat.pow_succ,Nat.mul_comm]
  omega
theorem chF_ok {T E:List Int} {r:Nat→Int} (hr:okR r):∀k x,∀p,p∈chF T E r k x→okR p.2∧p.1<x+k:=by
 intro k
 induction k with
 | zero=>intro x p hp;cases hp
 | succ k ih =>
  intro x p hp
  unfold chF at hp
  split at hp
  ·cases hp
  ·rename_i hany
   rcases List.mem_append.1 hp with hp|hp
   ·split at hp
    ·cases hp
    ·rw[List.mem_singleton.1 hp]
     refine ⟨fun i hi=>?_,by show x<x+(k+1);omega⟩
     show 0≤lessF T r x i∧lessF T r x i≤24
     unfold lessF
     have:=hr i hi
     split
     ·rename_i hc
      rw[Bool.not_eq_true,List.any_eq_false] at hany
      have h2:=hany (i:Int) (by simpa using hc)
      rw[Int.toNat_natCast,decide_eq_true_eq] at h2
      omega
     ·exact this
   ·have:=ih (x+1) p hp
    exact ⟨this.1,by have:=this.2;omega⟩
theorem laidOut12:laidOutB Tryz.prog=true:=by kernel_rfl
theorem r12Row:(90:TypeId)<Tryz.prog.types.size:=of_decide_eq_true (by kernel_rfl)
theorem r12Arr:ArrKey Tryz.prog 90 3 12:=⟨Tryz.underlying90,by kernel_rfl,by kernel_rfl,by kernel_rfl⟩
theorem r12Wide:(match Tryz.prog.underlying 90 with|some (.array _ _)|some (.struct _)=>true|_=>false)=true:=by rw[Tryz.underlying90]
theorem r12Keyed:Keyed Tryz.prog 90:=Keyed.of_law (deep_law_laid laidOut12 (m:=2) (by omega) r12Row (by kernel_rfl) r12Wide)
def lits12 (r:Nat→Int):List Lit:=(List.range 12).map fun i => .int .i64 (r i)
abbrev K12:={l:List Int // l.length=12∧∀x,x∈l → -1000000≤x∧x≤1000000}
def r12 (l:K12) (i:Nat):Int:=l.1[i]?.getD 0
def kap12 (l:K12):Lit := .string (keyBytes (lits12 (r12 l)))
theorem wf12 {x:Int} (h0 : -1000000≤x) (h1:x≤1000000):(Lit.int .i64 x).wf=true:=by
 show (decide (IntKind.i64.min≤x)&&decide (x≤IntKind.i64.max))=true
 rw[Bool.and_eq_true,decide_eq_true_eq,decide_eq_true_eq]
 exact ⟨Int.le_trans (by decide) h0,Int.le_trans h1 (by decide)⟩
theorem keyOf_12 (r:Nat→Int) (h:∀i,i<12→(Lit.int .i64 (r i)).wf=true):keyOf Tryz.prog 90 (.agg #[.int .i64 (r 0),.int .i64 (r 1),.int .i64 (r 2),.int .i64 (r 3),.int .i64 (r 4),.int .i64 (r 5),.int .i64 (r 6),.int .i64 (r 7),.int .i64 (r 8),.int .i64 (r 9),.int .i64 (r 10),.int .i64 (r 11)])=some (.string (keyBytes (lits12 r))):=by
 have hsz:∃m,Tryz.prog.types.size=m+1:=⟨_,rfl⟩
 have hkt:=r12Arr.keyType hsz
 obtain ⟨m,hm⟩:=hsz
 unfold keyOf
 simp only[r12Arr.hu]
 rw[if_pos (by simp[hkt,Value.formed,r12Arr.hu,r12Arr.size]),hm]
 unfold Program.keyLits
 simp only[r12Arr.hu,Value.cells]
 rw[if_pos (by rw[r12Arr.size];rfl)]
 have h0:=h 0 (by omega)
 have h1:=h 1 (by omega)
 have h2:=h 2 (by omega)
 have h3:=h 3 (by omega)
 have h4:=h 4 (by omega)
 have h5:=h 5 (by omega)
 have h6:=h 6 (by omega)
 have h7:=h 7 (by omega)
 have h8:=h 8 (by omega)
 have h9:=h 9 (by omega)
 have h10:=h 10 (by omega)
 have h11:=h 11 (by omega)
 rw[show List.range 12=[0,1,2,3,4,5,6,7,8,9,10,11] from rfl]
 simp[r12Arr.one,Program.keyLits,Tryz.underlying3,lits12,List.range_succ,h0,h1,h2,h3,h4,h5,h6,h7,h8,h9,h10,h11]
theorem key12 (l:K12):keyOf Tryz.prog 90 (.agg #[.int .i64 (r12 l 0),.int .i64 (r12 l 1),.int .i64 (r12 l 2),.int .i64 (r12 l 3),.int .i64 (r12 l 4),.int .i64 (r12 l 5),.int .i64 (r12 l 6),.int .i64 (r12 l 7),.int .i64 (r12 l 8),.int .i64 (r12 l 9),.int .i64 (r12 l 10),.int .i64 (r12 l 11)])=some (kap12 l):=keyOf_12 _ fun i hi=>by
 have hm:r12 l i∈l.1:=by
  unfold r12
  rw[List.getElem?_eq_getElem (by rw[l.2.1];exact hi)]
  exact List.getElem_mem _
 have:=l.2.2 _ hm
 exact wf12 this.1 this.2
theorem inj12 (x y:K12) (h:kap12 x=kap12 y):x=y:=by
 have h1:=key12 x
 have h2:=key12 y
 rw[h] at h1
 have:=r12Keyed.inj h1 h2
 simp only[Value.agg.injEq,Array.mk.injEq,List.cons.injEq,Value.int.injEq,and_true,true_and] at this
 refine Subtype.ext (List.ext_getElem? fun i=>?_)
 obtain ⟨e0,e1,e2,e3,e4,e5,e6,e7,e8,e9,e10,e11⟩:=this
 by_cases hi:i<12
 ·have hx:∀l:K12,l.1[i]?=some (r12 l i):=fun l=>by
   unfold r12
   rw[List.getElem?_eq_getElem (by rw[l.2.1];exact hi)];rfl
  rw[hx,hx]
  congr 1
  match i,hi with
  | 0,_=>exact e0
  | 1,_=>exact e1
  | 2,_=>exact e2
  | 3,_=>exact e3
  | 4,_=>exact e4
  | 5,_=>exact e5
  | 6,_=>exact e6
  | 7,_=>exact e7
  | 8,_=>exact e8
  | 9,_=>exact e9
  | 10,_=>exact e10
  | 11,_=>exact e11
 ·rw[List.getElem?_eq_none (by rw[x.2.1];omega),List.getElem?_eq_none (by rw[y.2.1];omega)]
def mk12 (r:Nat→Int) (h:okR r):K12:=⟨(List.range 12).map r,by simp,fun x hx=>by
 obtain ⟨i,hi,rfl⟩:=List.mem_map.1 hx
 have:=h i (List.mem_range.1 hi)
 omega⟩
theorem r12_mk {r:Nat→Int} (h:okR r):sameR (r12 (mk12 r h)) r:=fun i hi=>by
 unfold r12 mk12
 show ((List.range 12).map r)[i]?.getD 0=r i
 rw[List.getElem?_map,List.getElem?_range hi];rfl
theorem key_mk {r:Nat→Int} (h:okR r):keyOf Tryz.prog 90 (.agg #[.int .i64 (r 0),.int .i64 (r 1),.int .i64 (r 2),.int .i64 (r 3),.int .i64 (r 4),.int .i64 (r 5),.int .i64 (r 6),.int .i64 (r 7),.int .i64 (r 8),.int .i64 (r 9),.int .i64 (r 10),.int .i64 (r 11)])=some (kap12 (mk12 r h)):=by
 have e:lits12 (r12 (mk12 r h))=lits12 r:=by
  unfold lits12
  apply List.map_congr_left
  intro i hi
  rw[r12_mk h i (List.mem_range.1 hi)]
 unfold kap12
 rw[e]
 exact keyOf_12 r fun i hi=>by have:=h i hi;exact wf12 (by omega) (by omega)
end
section
open Go Go.RowKit Go.Maps
attribute [local go_sem] over_cell
attribute [local go_sem] Oper.semAt_some
def CKept (A B:World):Prop:=A.heap.size≤B.heap.size∧∀(j:Nat) (o:Obj),A.heap[j]?=some o→o.isCells=true→B.heap[j]?=some o
def KpX (x:Nat) (A B:World):Prop:=A.heap.size≤B.heap.size∧∀(j:Nat) (o:Obj),A.heap[j]?=some o→o.isCells=true→j≠x→B.heap[j]?=some o
theorem CKept.refl (A:World):CKept A A:=⟨Nat.le_refl _,fun _ _ h _=>h⟩
theorem CKept.trans {A B C:World} (h:CKept A B) (k:CKept B C):CKept A C:=⟨Nat.le_trans h.1 k.1,fun j o a b=>k.2 j o (h.2 j o a b) b⟩
theorem CKept.below {A B:World} (h:Below A.heap.size A B):CKept A B:=⟨h.size,fun _ _ a _=>keepq h a⟩
theorem CKept.drop {x:Nat} {A B C:World} (h:CKept A B) (k:KpX x B C) (hx:A.heap.size≤x):CKept A C:=⟨Nat.le_trans h.1 k.1,fun j o a b=>k.2 j o (h.2 j o a b) b (fun e=>by have:=q_lt a;omega)⟩
theorem KpX.refl (x:Nat) (A:World):KpX x A A:=⟨Nat.le_refl _,fun _ _ h _ _=>h⟩
theorem KpX.trans {x:Nat} {A B C:World} (h:KpX x A B) (k:KpX x B C):KpX x A C:=⟨Nat.le_trans h.1 k.1,fun j o a b c=>k.2 j o (h.2 j o a b c) b c⟩
theorem KpX.below {x:Nat} {A B:World} (h:Below A.heap.size A B):KpX x A B:=⟨h.size,fun _ _ a _ _=>keepq h a⟩
theorem KpX.q {x:Nat} {A B:World} (h:KpX x A B) {b:Nat} {vs:Array Value} {t:TypeId} {rr:Nat × Nat} (hb:A.heap[b]?=some (.cells vs t rr)) (hx:b≠x):B.heap[b]?=some (.cells vs t rr):=h.2 b _ hb rfl hx
theorem KpX.put {x:Nat} {A:World} {l:Nat} {o:Obj} (o':Obj) (h:A.heap[l]?=some o) (ho:o.isCells=false):KpX x A (A.putObj l o'):=⟨by simp,fun j o2 a b _=>(World.putObj_heap_other (fun e=>by subst e;rw[h] at a;cases a;rw[ho] at b;cases b)).trans a⟩
theorem ck_cell {A B:World} (h:CKept A B) {p:Addr} {v:Value} (hc:A.cell? p=some v):B.cell? p=some v:=by
 have hl:=cell_lt hc
 have hq:A.heap[p.block]?=some (A.heap[p.block]'hl):=Array.getElem?_eq_getElem hl
 have hcell:(A.heap[p.block]'hl).isCells=true:=by
  unfold World.cell? at hc
  rw[hq] at hc
  revert hc
  cases (A.heap[p.block]'hl) <;> simp[Obj.isCells]
 have h2:=h.2 _ _ hq hcell
 unfold World.cell? at hc ⊢
 rw[h2]
 rw[hq] at hc
 exact hc
theorem IC.ck {A B:World} (h:CKept A B) {a:Option Addr} {n:Nat} {xs:List Int} (hi:IC A a n xs):IC B a n xs :=
 ⟨hi.1,fun k hk=>by
  obtain ⟨b,off,e,hl,hc⟩:=hi.2 k hk
  exact ⟨b,off,e,Nat.lt_of_lt_of_le hl h.1,ck_cell h hc⟩⟩
theorem RC.ck {A B:World} (h:CKept A B) {a:Option Addr} {n:Nat} {ls:List (List Int)} (hi:RC A a n ls):RC B a n ls :=
 ⟨hi.1,fun k hk=>by
  obtain ⟨b,off,a',n',c',e,hl,hc,hic,hcap⟩:=hi.2 k hk
  exact ⟨b,off,a',n',c',e,Nat.lt_of_lt_of_le hl h.1,ck_cell h hc,hic.ck h,hcap⟩⟩
structure SP where
 (bs n:Nat)
 (aT aE aK:Option Addr)
 (cT cE cK:Nat)
 (TL EL:List (List Int))
 (mb:Nat→Nat)
def SP.Th (S:SP) (c:Nat):List Int:=S.TL[c]?.getD []
def SP.En (S:SP) (c:Nat):List Int:=S.EL[c]?.getD []
structure SB (S:SP) (W:World):Prop where
 sq:W.heap[S.bs]?=some (.cells #[.slice S.aT S.n S.cT,.slice S.aE S.n S.cE,.slice none 0 0,.slice S.aK S.n S.cK] 114 (0,0))
 tr:RC W S.aT S.n S.TL
 en:RC W S.aE S.n S.EL
 kn:∀c,c<S.n→∃b off,S.aK=some ⟨b,off,none⟩∧b<W.heap.size∧W.cell? ⟨b,off+c,none⟩=some (.map (some (S.mb c)))
 lnT:∀c,okLn (S.Th c)
 lnE:∀c,okLn (S.En c)
 some:∀c,c<S.n→S.Th c≠[]∧(S.Th c).Nodup
theorem SB.ck {S:SP} {A B:World} (h:SB S A) (k:CKept A B):SB S B :=
 ⟨k.2 _ _ h.sq rfl,h.tr.ck k,h.en.ck k,fun c hc=>by
  obtain ⟨b,off,e,hl,hcc⟩:=h.kn c hc
  exact ⟨b,off,e,Nat.lt_of_lt_of_le hl k.1,ck_cell k hcc⟩,h.lnT,h.lnE,h.some⟩
abbrev CP:=Nat × (Nat→Int)
def encP (p:CP):Array Value:=#[.int .i64 (p.1:Int),.agg #[.int .i64 (p.2 0),.int .i64 (p.2 1),.int .i64 (p.2 2),.int .i64 (p.2 3),.int .i64 (p.2 4),.int .i64 (p.2 5),.int .i64 (p.2 6),.int .i64 (p.2 7),.int .i64 (p.2 8),.int .i64 (p.2 9),.int .i64 (p.2 10),.int .i64 (p.2 11)]]
theorem v12_get (r:Nat→Int) {i:Nat} (hi:i<12):(#[.int .i64 (r 0),.int .i64 (r 1),.int .i64 (r 2),.int .i64 (r 3),.int .i64 (r 4),.int .i64 (r 5),.int .i64 (r 6),.int .i64 (r 7),.int .i64 (r 8),.int .i64 (r 9),.int .i64 (r 10),.int .i64 (r 11)]:Array Value)[i]?=some (.int .i64 (r i)):=by
 match i,hi with
 | 0,_=>rfl
 | 1,_=>rfl
 | 2,_=>rfl
 | 3,_=>rfl
 | 4,_=>rfl
 | 5,_=>rfl
 | 6,_=>rfl
 | 7,_=>rfl
 | 8,_=>rfl
 | 9,_=>rfl
 | 10,_=>rfl
 | 11,_=>rfl
theorem v12_set (r:Nat→Int) {i:Nat} (hi:i<12) (x:Int):(#[.int .i64 (r 0),.int .i64 (r 1),.int .i64 (r 2),.int .i64 (r 3),.int .i64 (r 4),.int .i64 (r 5),.int .i64 (r 6),.int .i64 (r 7),.int .i64 (r 8),.int .i64 (r 9),.int .i64 (r 10),.int .i64 (r 11)]:Array Value).setIfInBounds i (.int .i64 x)=#[.int .i64 (updF r i x 0),.int .i64 (updF r i x 1),.int .i64 (updF r i x 2),.int .i64 (updF r i x 3),.int .i64 (updF r i x 4),.int .i64 (updF r i x 5),.int .i64 (updF r i x 6),.int .i64 (updF r i x 7),.int .i64 (updF r i x 8),.int .i64 (updF r i x 9),.int .i64 (updF r i x 10),.int .i64 (updF r i x 11)]:=by
 match i,hi with
 | 0,_=>rfl
 | 1,_=>rfl
 | 2,_=>rfl
 | 3,_=>rfl
 | 4,_=>rfl
 | 5,_=>rfl
 | 6,_=>rfl
 | 7,_=>rfl
 | 8,_=>rfl
 | 9,_=>rfl
 | 10,_=>rfl
 | 11,_=>rfl
theorem lessF_snoc {T:List Int} {k:Nat} (r:Nat→Int) (x:Int) (hk:¬(k:Int)∈T):updF (lessF T r x) k (r k - x)=lessF (T++[(k:Int)]) r x:=by
 funext i
 by_cases e:i=k
 ·subst e
  rw[updF_same]
  unfold lessF
  rw[if_pos (by simp)]
 ·rw[updF_other _ _ e]
  unfold lessF
  have:(T++[(k:Int)]).contains (i:Int)=T.contains (i:Int):=by
   rw[Bool.eq_iff_iff]
   simp
   omega
  rw[this]
theorem lessF_out {T:List Int} {k:Nat} (r:Nat→Int) (x:Int) (hk:¬(k:Int)∈T):lessF T r x k=r k:=by
 unfold lessF;rw[if_neg (by simpa using hk)]
theorem choices_c (b:Nat) (c:Nat) (r:Nat→Int) (w:World):Calls Tryz.prog 70 #[.pointer (some ⟨b,0,none⟩),.int .i64 (c:Int),.agg #[.int .i64 (r 0),.int .i64 (r 1),.int .i64 (r 2),.int .i64 (r 3),.int .i64 (r 4),.int .i64 (r 5),.int .i64 (r 6),.int .i64 (r 7),.int .i64 (r 8),.int .i64 (r 9),.int .i64 (r 10),.int .i64 (r 11)]] w fun e w' =>
  e = .returned (.func (.func 80) #[] #[.pointer (some ⟨w.heap.size,0,none⟩),.pointer (some ⟨w.heap.size+1,0,none⟩),.pointer (some ⟨w.heap.size+2,0,none⟩)]) ∧
  w'.heap[w.heap.size]?=some (.cells #[.pointer (some ⟨b,0,none⟩)] 93 (0,0))∧w'.heap[w.heap.size+1]?=some (.cells #[.int .i64 (c:Int)] 3 (0,0))∧w'.heap[w.heap.size+2]?=some (.cells #[.int .i64 (r 0),.int .i64 (r 1),.int .i64 (r 2),.int .i64 (r 3),.int .i64 (r 4),.int .i64 (r 5),.int .i64 (r 6),.int .i64 (r 7),.int .i64 (r 8),.int .i64 (r 9),.int .i64 (r 10),.int .i64 (r 11)] 90 (0,0))∧Below w.heap.size w w':=by
 go_enter Tryz.func70,Tryz.ntmps70
 go_upto_region 1 with fail
 have fsz:(((w.alloc (.cells #[.pointer (some ⟨b,0,none⟩)] 93)).alloc (.cells #[.int .i64 (c:Int)] 3)).alloc (.cells #[.int .i64 (r 0),.int .i64 (r 1),.int .i64 (r 2),.int .i64 (r 3),.int .i64 (r 4),.int .i64 (r 5),.int .i64 (r 6),.int .i64 (r 7),.int .i64 (r 8),.int .i64 (r 9),.int .i64 (r 10),.int .i64 (r 11)] 90)).heap.size=w.heap.size+3:=by simp only[World.size_alloc] <;> omega
 have fB:Below w.heap.size w (((w.alloc (.cells #[.pointer (some ⟨b,0,none⟩)] 93)).alloc (.cells #[.int .i64 (c:Int)] 3)).alloc (.cells #[.int .i64 (r 0),.int .i64 (r 1),.int .i64 (r 2),.int .i64 (r 3),.int .i64 (r 4),.int .i64 (r 5),.int .i64 (r 6),.int .i64 (r 7),.int .i64 (r 8),.int .i64 (r 9),.int .i64 (r 10),.int .i64 (r 11)] 90)):=(((Below.refl _ _).alloc (Nat.le_refl _) _).alloc (by simp only[World.size_alloc];omega) _).alloc (by simp only[World.size_alloc];omega) _
 have fq0:(((w.alloc (.cells #[.pointer (some ⟨b,0,none⟩)] 93)).alloc (.cells #[.int .i64 (c:Int)] 3)).alloc (.cells #[.int .i64 (r 0),.int .i64 (r 1),.int .i64 (r 2),.int .i64 (r 3),.int .i64 (r 4),.int .i64 (r 5),.int .i64 (r 6),.int .i64 (r 7),.int .i64 (r 8),.int .i64 (r 9),.int .i64 (r 10),.int .i64 (r 11)] 90)).heap[w.heap.size]?=some (.cells #[.pointer (some ⟨b,0,none⟩)] 93 (0,0)):=by have h:=World.alloc_heap_new w (.cells #[.pointer (some ⟨b,0,none⟩)] 93);exact (Below.heap_alloc _ _ _ (by simp only[World.size_alloc];omega)).trans ((Below.heap_alloc _ _ _ (by simp only[World.size_alloc];omega)).trans (h))
 have fq1:(((w.alloc (.cells #[.pointer (some ⟨b,0,none⟩)] 93)).alloc (.cells #[.int .i64 (c:Int)] 3)).alloc (.cells #[.int .i64 (r 0),.int .i64 (r 1),.int .i64 (r 2),.int .i64 (r 3),.int .i64 (r 4),.int .i64 (r 5),.int .i64 (r 6),.int .i64 (r 7),.int .i64 (r 8),.int .i64 (r 9),.int .i64 (r 10),.int .i64 (r 11)] 90)).heap[w.heap.size+1]?=some (.cells #[.int .i64 (c:Int)] 3 (0,0)):=by have h:=World.alloc_heap_new (w.alloc (.cells #[.pointer (some ⟨b,0,none⟩)] 93)) (.cells #[.int .i64 (c:Int)] 3);simp only[World.size_alloc] at h;exact (Below.heap_alloc _ _ _ (by simp only[World.size_alloc];omega)).trans (h)
 have fq2:(((w.alloc (.cells #[.pointer (some ⟨b,0,none⟩)] 93)).alloc (.cells #[.int .i64 (c:Int)] 3)).alloc (.cells #[.int .i64 (r 0),.int .i64 (r 1),.int .i64 (r 2),.int .i64 (r 3),.int .i64 (r 4),.int .i64 (r 5),.int .i64 (r 6),.int .i64 (r 7),.int .i64 (r 8),.int .i64 (r 9),.int .i64 (r 10),.int .i64 (r 11)] 90)).heap[w.heap.size+1+1]?=some (.cells #[.int .i64 (r 0),.int .i64 (r 1),.int .i64 (r 2),.int .i64 (r 3),.int .i64 (r 4),.int .i64 (r 5),.int .i64 (r 6),.int .i64 (r 7),.int .i64 (r 8),.int .i64 (r 9),.int .i64 (r 10),.int .i64 (r 11)] 90 (0,0)):=by have h:=World.alloc_heap_new ((w.alloc (.cells #[.pointer (some ⟨b,0,none⟩)] 93)).alloc (.cells #[.int .i64 (c:Int)] 3)) (.cells #[.int .i64 (r 0),.int .i64 (r 1),.int .i64 (r 2),.int .i64 (r 3),.int .i64 (r 4),.int .i64 (r 5),.int .i64 (r 6),.int .i64 (r 7),.int .i64 (r 8),.int .i64 (r 9),.int .i64 (r 10),.int .i64 (r 11)] 90);simp only[World.size_alloc] at h;exact h
 generalize (((w.alloc (.cells #[.pointer (some ⟨b,0,none⟩)] 93)).alloc (.cells #[.int .i64 (c:Int)] 3)).alloc (.cells #[.int .i64 (r 0),.int .i64 (r 1),.int .i64 (r 2),.int .i64 (r 3),.int .i64 (r 4),.int .i64 (r 5),.int .i64 (r 6),.int .i64 (r 7),.int .i64 (r 8),.int .i64 (r 9),.int .i64 (r 10),.int .i64 (r 11)] 90))=W0 at fsz fB fq0 fq1 fq2 ⊢
 go_wp2_with fail
 go_ret
 exact ⟨rfl,fq0,fq1,fq2,fB⟩
end
end Go.Proofs.YtpkghjoippcjeaaGreatDoor
