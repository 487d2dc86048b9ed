/- Texts J125 to J126 of this proof, in one file. -/
import Derived.Test.YtmfpdakaeagdpaaGreatW01
import Derived.Test.YtmfpdakaeagdpaaGreatW02
import Derived.Test.YtmfpdakaeagdpaaGreatW03
import Derived.Test.YtmfpdakaeagdpaaGreatW04
import Derived.Test.YtmfpdakaeagdpaaGreatW05
import Derived.Test.YtmfpdakaeagdpaaGreatW06
import Derived.Test.YtmfpdakaeagdpaaGreatW07
import Derived.Test.YtmfpdakaeagdpaaGreatW08
import Derived.Test.YtmfpdakaeagdpaaGreatW09
import Derived.Test.YtmfpdakaeagdpaaGreatW10
import Derived.Test.YtmfpdakaeagdpaaGreatW11
import Derived.Test.YtmfpdakaeagdpaaGreatW12
import Derived.Test.YtmfpdakaeagdpaaGreatW13
import Derived.Test.YtmfpdakaeagdpaaGreatW14
import Derived.Test.YtmfpdakaeagdpaaGreatW15
import Derived.Test.YtmfpdakaeagdpaaGreatW16
import Derived.Test.YtmfpdakaeagdpaaGreatW17
import Derived.Test.YtmfpdakaeagdpaaGreatW18
import Derived.Test.YtmfpdakaeagdpaaGreatW19
import Derived.Test.YtmfpdakaeagdpaaGreatW20
import Derived.Test.YtmfpdakaeagdpaaGreatW21
import Derived.Test.YtmfpdakaeagdpaaGreatW22
import Derived.Test.YtmfpdakaeagdpaaGreatW23
import Derived.Test.YtmfpdakaeagdpaaGreatW24
import Derived.Test.YtmfpdakaeagdpaaGreatW25
import Derived.Test.YtmfpdakaeagdpaaGreatW26
import Derived.Test.YtmfpdakaeagdpaaGreatW27
import Derived.Test.YtmfpdakaeagdpaaGreatX24n01
import Derived.Below
import Derived.BigFrame
import Derived.BigQuiet
import Derived.Deep.CutBlock
import Derived.Deep.CutRange
import Derived.Deep.LoopGhost
import Derived.Deep.Quiet
import Derived.Deep.RegionHeld3
import Derived.DeepKeys4
import Derived.KernelRfl
import Derived.Laws.BitsAllLaws
import Derived.Laws.EntriesVeiled
import Derived.Lib.Hide
import Derived.Lib.SlKeysI
import Derived.Lib.SliceRun
import Derived.LoopIn
import Derived.LoopNIn
import Derived.Maps.AppendAt
import Derived.Maps.OwnIn
import Derived.Maps.OwnSet
import Derived.OneCell
import Derived.OrdersHeld
import Derived.OrdersIn
import Derived.OwnWalkIn
import Derived.RangeFuncBound
import Derived.RangeFuncBox
import Derived.RangeFuncCalls
import Derived.RangeFuncLeaves
import Derived.RangeFuncNested
import Derived.RangeFuncWrites
import Derived.Shelf.Abstract
import Derived.Shelf.SortM.Plain
import Derived.Still
import Derived.TacticsIn
import Derived.TacticsInMore
import Derived.Test.YtmfpdakaeagdpaaGreatProg
import Derived.WalkKit
import Derived.WalkLawsBesides
import Derived.WalkSpells
import Derived.WideKeyPair
namespace Go.Proofs.YtmfpdakaeagdpaaGreat
set_option maxRecDepth 100000
set_option maxHeartbeats 16000000
section
open Go Go.RowKit
attribute [local go_sem] over_cell
attribute [local go_sem] Oper.semAt_some
theorem choE1_a {n:Nat} {ch:List Int} {i:Nat} {k:Int} (hk:k=ch[i]?.getD 0) (h:k<0∨(n:Int)≤k):choE1 n ch i=10:=by
 unfold choE1
 rw[← hk]
 have:(decide (k<0)||decide ((n:Int)≤k))=true:=by
  rcases h with h|h <;> simp[h]
 rw[this];rfl
theorem choE1_b {n:Nat} {ch:List Int} {i:Nat} (h:¬ch[i]?.getD 0<0) (h1:¬(n:Int)≤ch[i]?.getD 0) (hi:0<i) (h2:ch[i]?.getD 0≤ch[i - 1]?.getD 0):choE1 n ch i=11:=by
 unfold choE1
 rw[decide_eq_false h,decide_eq_false h1,decide_eq_true hi,decide_eq_true h2];rfl
theorem choE1_c {n:Nat} {ch:List Int} {i:Nat} (h:¬ch[i]?.getD 0<0) (h1:¬(n:Int)≤ch[i]?.getD 0) (h2:i=0∨¬ch[i]?.getD 0≤ch[i - 1]?.getD 0):choE1 n ch i=0:=by
 unfold choE1
 rw[decide_eq_false h,decide_eq_false h1]
 have:(decide (0<i)&&decide (ch[i]?.getD 0≤ch[i - 1]?.getD 0))=false:=by
  rcases h2 with h2|h2
  ·rw[h2];rfl
  ·rw[decide_eq_false h2,Bool.and_false]
 rw[this];rfl
theorem rchosen_c (a:Option Addr) (n c:Nat) (a2:Option Addr) (nc c2:Nat) (ch:List Int) (w:World) (h2:IC w a2 nc ch) :
  Calls Tryz.prog 35 #[.slice a n c,.slice a2 nc c2] w fun e w'=>e = .returned (.int .i64 (choE n ch))∧Below w.heap.size w w':=by
 have hlc:=h2.len
 have HHIT:=Lib.hid (fun i=>choE_hit (n:=n) (ch:=ch) (i:=i))
 have HNON:=Lib.hid (choE_none (n:=n) (ch:=ch))
 rw[hlc] at HHIT HNON
 obtain ⟨er,her⟩:∃er,er=choE n ch:=⟨_,rfl⟩
 rw[← her] at HHIT HNON ⊢
 have HIC:=Lib.hid h2
 have hsm:=h2.small
 clear h2 her hlc
 go_enter Tryz.func35,Tryz.ntmps35
 go_wp2_with fail
 go_loopw [5] (fun s5 wr=>∃i:Nat,i≤nc∧s5 = .int .i64 (i:Int)∧Hid (∀j,j<i→choE1 n ch j=0)∧Hid (Below w.heap.size w wr)) (fun s5 _=>nc - (intOf s5).toNat)
 case atStart=>exact ⟨0,by omega,rfl,fun j hj=>absurd hj (by omega),Below.refl _ _⟩
 case round =>
  obtain ⟨i,hi1,rfl,hbf,hbr⟩:=hrel
  by_cases hlt:i<nc
  ·have hki:(i:Int)<(nc:Int):=by omega
   have hic:=HIC.out.mono hbr.out
   obtain ⟨b1,off1,rfl,hbl1,hc1⟩:=hic.2 i hlt
   have HHI:=Lib.hid (fun e=>HHIT.out i hlt hbf.out e)
   have HNXT:Hid (choE1 n ch i=0→∀j,j<i+1→choE1 n ch j=0):=fun e j hj=>by
    rcases Nat.lt_or_ge j i with e2|e2
    ·exact hbf.out j e2
    ·rw[show j=i by omega];exact e
   have HA:=Lib.hid (fun k hk h=>choE1_a (n:=n) (ch:=ch) (i:=i) (k:=k) hk h)
   have HB:=Lib.hid (choE1_b (n:=n) (ch:=ch) (i:=i))
   have HC:=Lib.hid (choE1_c (n:=n) (ch:=ch) (i:=i))
   have hpv:0<i→∃b9,b9=b1∧wr.cell? ⟨b1,off1+(i - 1),none⟩=some (.int .i64 (ch[i - 1]?.getD 0)):=fun h0=>by
    obtain ⟨b9,o9,e9,_,hc9⟩:=hic.2 (i - 1) (by omega)
    cases e9
    exact ⟨_,rfl,hc9⟩
   obtain ⟨k,hk⟩:∃k,k=ch[i]?.getD 0:=⟨_,rfl⟩
   have HA2:=Lib.hid (HA.out k hk)
   rw[← hk] at hc1 HB HC
   clear hk HA hic
   obtain ⟨e1,he1⟩:∃e1,e1=choE1 n ch i:=⟨_,rfl⟩
   rw[← he1] at HHI HNXT HA2 HB HC
   clear he1
   by_cases hk0:k<0
   ·have hd1:decide (k<0)=true:=decide_eq_true hk0
    have HSV:=Lib.hid (HA2.out (.inl hk0))
    have hv:=HHI.out (by rw[HSV.out];decide)
    rw[HSV.out] at hv
    clear HHI HSV HNXT
    subst hv
    go_wp2_with fail
    go_ret
    exact ⟨rfl,hbr.out⟩
   ·have hd1:decide (k<0)=false:=decide_eq_false hk0
    by_cases hk1:(n:Int)≤k
    ·have hd2:decide ((n:Int)≤k)=true:=decide_eq_true hk1
     have HSV:=Lib.hid (HA2.out (.inr hk1))
     have hv:=HHI.out (by rw[HSV.out];decide)
     rw[HSV.out] at hv
     clear HHI HSV HNXT
     subst hv
     go_wp2_with fail
     go_ret
     exact ⟨rfl,hbr.out⟩
    ·have hd2:decide ((n:Int)≤k)=false:=decide_eq_false hk1
     by_cases hi0':¬0<i
     ·have HN2:=Lib.hid (HNXT.out (HC.out hk0 hk1 (.inl (by omega))))
      have hdi:decide (0<i)=false:=decide_eq_false hi0'
      clear HHI HNXT HA2 HB HC hpv
      clear hi0'
      go_wp2_with fail
      refine wp_region_S (fun w'=>∃u,w'=over (wr) u) [] [(0,0),(0,1),(0,2),(0,3),(0,4),(0,5),(0,6),(0,7),(0,8),(0,9),(0,10),(0,11),(0,12),(0,13)] (by kernel_rfl) (by kernel_rfl) (by exact ⟨_,below_over (by repeat (first|assumption|exact Below.refl _ _|refine keep_drew ?_|refine keep_alloc ?_ _|refine keep_trans ?_ (by assumption)))⟩) ?_
      dsimp only[pickOps,nthOp]
      repeat (first|(refine wpS_skip rfl (fun K hK=>?_);go_big_quiet_op;refine hK _ ?_;clear hK K)|(refine wpS_quiet rfl rfl (fun K hK=>?_);go_big_quiet_op;refine hK _ ?_;clear hK K))
      refine wpS_end ?_
      go_wp2_with fail
      go_roundw
      case rel=>exact ⟨i+1,by omega,by go_num,HN2.out,hbr.out.drew⟩
      case measure=>simp[intOf];omega
     ·obtain ⟨i,rfl⟩:∃i':Nat,i=i'+1:=⟨i - 1,by omega⟩
      obtain ⟨b9,_,hcp⟩:=hpv (by omega)
      rw[Nat.add_sub_cancel] at hcp HB HC
      have hdi:decide (0<i+1)=true:=decide_eq_true (by omega)
      clear hi0'
      clear hpv
      generalize ch[i]?.getD 0=pv at hcp HB HC
      by_cases hk2:k≤pv
      ·have hd3:decide (k≤pv)=true:=decide_eq_true hk2
       have HSV:=Lib.hid (HB.out hk0 hk1 (by omega) hk2)
       clear HA2 HB HC
       have hv:=HHI.out (by rw[HSV.out];decide)
       rw[HSV.out] at hv
       clear HHI HSV HNXT
       subst hv
       go_wp2_with fail
       refine wp_region_S (fun w'=>∃u,w'=over (wr) u) [] [(0,0),(0,1),(0,2),(0,3),(0,4),(0,5),(0,6),(0,7),(0,8),(0,9),(0,10),(0,11),(0,12),(0,13)] (by kernel_rfl) (by kernel_rfl) (by exact ⟨_,below_over (by repeat (first|assumption|exact Below.refl _ _|refine keep_drew ?_|refine keep_alloc ?_ _|refine keep_trans ?_ (by assumption)))⟩) ?_
       dsimp only[pickOps,nthOp]
       repeat (first|(refine wpS_skip rfl (fun K hK=>?_);go_big_quiet_op;refine hK _ ?_;clear hK K)|(refine wpS_quiet rfl rfl (fun K hK=>?_);go_big_quiet_op;refine hK _ ?_;clear hK K))
       refine wpS_end ?_
       go_wp2_with fail
       go_ret
       exact ⟨rfl,hbr.out.drew⟩
      ·have hd3:decide (k≤pv)=false:=decide_eq_false hk2
       have HN2:=Lib.hid (HNXT.out (HC.out hk0 hk1 (.inr hk2)))
       clear HHI HNXT HA2 HB HC
       go_wp2_with fail
       refine wp_region_S (fun w'=>∃u,w'=over (wr) u) [] [(0,0),(0,1),(0,2),(0,3),(0,4),(0,5),(0,6),(0,7),(0,8),(0,9),(0,10),(0,11),(0,12),(0,13)] (by kernel_rfl) (by kernel_rfl) (by exact ⟨_,below_over (by repeat (first|assumption|exact Below.refl _ _|refine keep_drew ?_|refine keep_alloc ?_ _|refine keep_trans ?_ (by assumption)))⟩) ?_
       dsimp only[pickOps,nthOp]
       repeat (first|(refine wpS_skip rfl (fun K hK=>?_);go_big_quiet_op;refine hK _ ?_;clear hK K)|(refine wpS_quiet rfl rfl (fun K hK=>?_);go_big_quiet_op;refine hK _ ?_;clear hK K))
       refine wpS_end ?_
       go_wp2_with fail
       go_roundw
       case rel=>exact ⟨i+1+1,by omega,by go_num,HN2.out,hbr.out.drew⟩
       case measure=>simp[intOf];omega
  ·have e:i=nc:=by omega
   subst e
   have HE:Hid (er=0):=HNON.out hbf.out
   go_wp2_with fail
   go_ret
   exact ⟨ret_int HE.out.symm,hbr.out⟩
def addA (L:List Int) (y:Int):List Int:=if y∈L then L else L++[y]
def keysA (l:List Int):List Int:=l.foldl addA []
theorem mem_foldA:∀(l K:List Int) (x:Int),x∈l.foldl addA K↔x∈K∨x∈l
 | [],K,x=>by simp
 | y :: l,K,x=>by
  have h1:x∈addA K y↔x∈K∨x=y:=by
   unfold addA
   split
   ·rename_i h
    constructor
    ·exact .inl
    ·rintro (e|e)
     ·exact e
     ·rw[e];exact h
   ·simp
  rw[List.foldl_cons,mem_foldA l (addA K y) x,h1,List.mem_cons]
  constructor
  ·rintro ((e|e)|e)
   ·exact .inl e
   ·exact .inr (.inl e)
   ·exact .inr (.inr e)
  ·rintro (e|e|e)
   ·exact .inl (.inl e)
   ·exact .inl (.inr e)
   ·exact .inr e
theorem mem_keysA {l:List Int} {x:Int}:x∈keysA l↔x∈l:=by unfold keysA;rw[mem_foldA];simp
theorem keysA_nodup (l:List Int):(keysA l).Nodup:=by
 unfold keysA
 have:∀(l K:List Int),K.Nodup→(l.foldl addA K).Nodup:=fun l=>by
  induction l with
  | nil=>intro K h;exact h
  | cons y l ih =>
   intro K h
   refine ih _ ?_
   unfold addA
   split
   ·exact h
   ·rename_i hy
    rw[List.nodup_append]
    exact ⟨h,by simp,fun a ha b hb e=>by simp at hb;rw[e,hb] at ha;exact hy ha⟩
 exact this l [] List.nodup_nil
theorem keysA_len (l:List Int):(keysA l).length=(keysI l).length :=
 Nat.le_antisymm (nodupI_le (keysA_nodup l) (fun _ hx=>mem_keysI.2 (mem_keysA.1 hx))) (nodupI_le (keysI_nodup l) (fun _ hx=>mem_keysA.2 (mem_keysI.1 hx)))
theorem keysA_snoc (l:List Int) (x:Int):keysA (l++[x])=addA (keysA l) x:=by unfold keysA;rw[List.foldl_append];rfl
theorem keysA_le {l m:List Int} (h:∀x,x∈l→x∈m):(keysA l).length≤m.length:=nodupI_le (keysA_nodup l) (fun x hx=>h x (mem_keysA.1 hx))
theorem choE_in {n:Nat} {ch:List Int} (h:choE n ch=0) {i:Nat} (hi:i<ch.length):0≤ch[i]?.getD 0∧ch[i]?.getD 0<(n:Int):=by
 have h1:choE1 n ch i=0:=firstL_all0 h _ (List.mem_map.2 ⟨i,List.mem_range.2 hi,rfl⟩)
 by_cases h0:0≤ch[i]?.getD 0∧ch[i]?.getD 0<(n:Int)
 ·exact h0
 ·exfalso
  rw[choE1_a rfl (by omega)] at h1
  exact absurd h1 (by decide)
theorem uniTo_flat {sets:List (List Int)} {ch:List Int} {i:Nat} {x:Int} (h:x∈uniTo sets ch i):x∈sets.flatten:=by
 obtain ⟨j,_,hx⟩:=mem_uniTo.1 h
 rw[List.mem_flatten]
 by_cases hl:(ch[j]?.getD 0).toNat<sets.length
 ·rw[List.getElem?_eq_getElem hl,Option.getD_some] at hx
  exact ⟨_,List.getElem_mem hl,hx⟩
 ·rw[List.getElem?_eq_none (by omega),Option.getD_none] at hx
  cases hx
theorem rviol_c (a:Option Addr) (n c:Nat) (sets:List (List Int)) (a2:Option Addr) (nc c2:Nat) (ch:List Int) (w:World) (h:RC w a n sets) (h2:IC w a2 nc ch) (hf:sets.flatten.length≤4096) (hc0:choE n ch=0) :
  Calls Tryz.prog 36 #[.slice a n c,.slice a2 nc c2] w fun e w'=>e = .returned (.bool (decide ((keysI (uniTo sets ch nc)).length<nc)))∧Below w.heap.size w w':=by
 rw[← keysA_len]
 have hlc:=h2.len
 have HCH:Hid (∀i,i<nc→0≤ch[i]?.getD 0∧ch[i]?.getD 0<(n:Int)):=fun i hi=>choE_in hc0 (by rw[hlc];exact hi)
 have HRC:=Lib.hid h
 have HIC:=Lib.hid h2
 have hsm:=h2.small
 have hsn:=h.1.2
 have HLE:=Lib.hid (fun (l:List Int) (hl:∀x,x∈l→x∈sets.flatten)=>Nat.le_trans (keysA_le hl) hf)
 obtain ⟨i0,hi0,hz0,hz1,hz2⟩:=info_parts infoInt
 obtain ⟨R,hR⟩:∃R,R=decide ((keysA (uniTo sets ch nc)).length<nc):=⟨_,rfl⟩
 rw[← hR]
 have HR:=Lib.hid hR
 clear h h2 hlc hc0 hf hR
 go_enter Tryz.func36,Tryz.ntmps36
 go_wp2_with fail
 go_loopw [5,6,7,8] (fun s5 s6 _ _ wr=>∃(i:Nat) (av:Option Addr) (cv:Nat),i≤nc∧s6 = .int .i64 (i:Int)∧s5 = .slice av (keysA (uniTo sets ch i)).length cv∧Hid (wr.ownsRow w.heap.size 3 1 (.slice av (keysA (uniTo sets ch i)).length cv) (keysA (uniTo sets ch i)).length ((keysA (uniTo sets ch i)).map (Value.int .i64)))∧Hid (Below w.heap.size w wr)) (fun _ s6 _ _ _=>nc - (intOf s6).toNat)
 case atStart=>exact ⟨0,none,0,by omega,rfl,rfl,World.ownsRow_nil _ _ _ _,Below.refl _ _⟩
 case round =>
  obtain ⟨i,av,cv,hi1,rfl,rfl,hO,hbr⟩:=hrel
  by_cases hlt:i<nc
  ·have hki:(i:Int)<(nc:Int):=by omega
   obtain ⟨b1,off1,rfl,hbl1,hc1⟩:=(HIC.out.mono hbr.out).2 i hlt
   obtain ⟨hk0,hkn⟩:=HCH.out i hlt
   have HU:=Lib.hid (uniTo_succ sets ch i)
   have HFL:=Lib.hid (fun x (hx:x∈uniTo sets ch (i+1))=>uniTo_flat hx)
   generalize ch[i]?.getD 0=k at hc1 hk0 hkn HU
   obtain ⟨k',rfl⟩:∃k':Nat,k=(k':Int):=⟨k.toNat,by omega⟩
   have hk':k'<n:=by omega
   obtain ⟨b3,off3,a',n',c',rfl,hbl3,hc3,hi3,_⟩:=HRC.out.2 k' hk'
   have hc4:=(hbr.out.cell (p:=⟨b3,off3+k',none⟩) hbl3).trans hc3
   have hbl4:=Nat.lt_of_lt_of_le hbl3 hbr.out.size
   rw[Int.toNat_natCast] at HU
   generalize sets[k']?.getD []=xs at hi3 HU
   have HI3:=Lib.hid hi3
   have HXL:=Lib.hid hi3.len
   have hxm:=hi3.small
   rw[HU.out] at HFL
   clear hi3 hbl3 hc3
   go_wp2_with fail
   go_loopw [5,8] (fun s5 s8 wr2=>∃(j:Nat) (av:Option Addr) (cv:Nat),j≤n'∧s8 = .int .i64 (j:Int)∧s5 = .slice av (keysA (uniTo sets ch i++xs.take j)).length cv∧Hid (wr2.ownsRow w.heap.size 3 1 (.slice av (keysA (uniTo sets ch i++xs.take j)).length cv) (keysA (uniTo sets ch i++xs.take j)).length ((keysA (uniTo sets ch i++xs.take j)).map (Value.int .i64)))∧Hid (Below w.heap.size w wr2)) (fun _ s8 _=>n' - (intOf s8).toNat)
   case atStart=>exact ⟨0,av,cv,by omega,rfl,by rw[List.take_zero,List.append_nil],by rw[List.take_zero,List.append_nil];exact hO,hbr⟩
   case round =>
    obtain ⟨j,av2,cv2,hj,rfl,rfl,hO2,hbr2⟩:=hrel
    by_cases hlt2:j<n'
    ·obtain ⟨b5,off5,rfl,hbl5,hc5⟩:=(HI3.out.mono hbr2.out).2 j hlt2
     have hkj:(j:Int)<(n':Int):=by omega
     have HTK:Hid (xs.take (j+1)=xs.take j++[xs[j]?.getD 0]):=take_snoc2 (by rw[HXL.out];exact hlt2)
     have hKl:(keysA (uniTo sets ch i++xs.take j)).length≤4096:=HLE.out _ (fun x hx=>HFL.out x (by
      rcases List.mem_append.1 hx with e|e
      ·exact List.mem_append.2 (.inl e)
      ·exact List.mem_append.2 (.inr (List.mem_of_mem_take e))))
     have HKS:=Lib.hid (keysA_snoc (uniTo sets ch i++xs.take j) (xs[j]?.getD 0))
     rw[List.append_assoc,← HTK.out] at HKS
     generalize xs[j]?.getD 0=x at hc5 HKS
     generalize keysA (uniTo sets ch i++xs.take j)=K at hO2 hKl HKS ⊢
     have hicK:=(IC.of_owns hO2.out (by omega)).1
     have HHS:=Lib.hid (fun W (hb:wr=W)=>rhas4_c av2 K.length cv2 K x W (by rw[← hb];exact hicK))
     clear hicK HTK
     by_cases hm:x∈K
     ·have hb:hasB K x=true:=by simp[hasB,hm]
      have hK:addA K x=K:=if_pos hm
      rw[hK] at HKS
      rw[hb] at HHS
      go_wp2_with (first|(go_at_call 111;(with_reducible refine (HHS.out _ rfl).mono ?_);rintro _ w6 ⟨rfl,h6⟩;subst h6)|fail)
      go_roundw
      case rel=>exact ⟨j+1,av2,cv2,by omega,by go_num,by rw[HKS.out],by rw[HKS.out];exact hO2,hbr2⟩
      case measure=>simp[intOf];omega
     ·have hb:hasB K x=false:=by simp[hasB,hm]
      have hK:addA K x=K++[x]:=if_neg hm
      rw[hK] at HKS
      rw[hb] at HHS
      have hO3:=hO2.out
      go_wp2_with (first|(go_at_call 111;(with_reducible refine (HHS.out _ rfl).mono ?_);rintro _ w6 ⟨rfl,h6⟩;subst h6)|(at_builtin;refine wpList_append_own _ rfl _ _ 22 rfl w.heap.size 3 i0 (.int .i64 0) 1 8 Tryz.underlying22 hi0 hz0 hz1 hz2 rfl (by decide) _ _ _ rfl (hO3.alloc _) ⟨wr.heap.size,0,none⟩ 1 1 [.int .i64 x] rfl rfl (cell_one_new _ _ _) (by simp[Value.oneCell']) (by unfold maxLen;omega) (by omega) (by have:=hbr2.out.size;simp;omega) ?_;intro v7 w7 hown7 hgr7 _)|fail)
      have hsw:=hbr2.out.size
      have hB7:Below w.heap.size w w7:=(hbr2.out.alloc hbr2.out.size _).grown hgr7 (by simp;omega) (fun j e=>(hO3.lt j e).1)
      obtain ⟨a7,c7,rfl⟩:=owns_shape hown7
      go_roundw
      case rel=>exact ⟨j+1,a7,c7,by omega,by go_num,by rw[HKS.out,List.length_append,List.length_singleton],by rw[HKS.out,List.length_append,List.length_singleton,List.map_append];exact hown7,hB7⟩
      case measure=>simp[intOf];omega
    ·have e:j=n':=by omega
     have hkj:¬(j:Int)<(n':Int):=by omega
     have HTA:Hid (xs.take j=xs):=List.take_of_length_le (by rw[HXL.out];omega)
     go_wp2_with fail
     go_roundw
     case rel=>exact ⟨i+1,av2,cv2,by omega,by go_num,by rw[HU.out,HTA.out],by have:=hO2.out;rw[HTA.out] at this;rw[HU.out];exact this,hbr2⟩
     case measure=>simp[intOf];omega
  ·have e:i=nc:=by omega
   subst e
   have hki:¬(i:Int)<(i:Int):=by omega
   have HF:Hid (R=decide ((keysA (uniTo sets ch i)).length<i)):=HR.out
   go_wp2_with fail
   go_ret
   exact ⟨ret_bool HF.out.symm,hbr.out⟩
end
section
open Go Go.RowKit
attribute [local go_sem] over_cell
attribute [local go_sem] Oper.semAt_some
def shB (m l k:Nat):Bool:=!(decide (m<k)||(decide (7<k)&&decide (k≤l)))
def fewSB (sets:List (List Int)):Bool:=shB 40 32 sets.length&&(List.range sets.length).all fun k=>shB 70 64 (sets[k]?.getD []).length
theorem shB_a {m l k:Nat} (h:m<k):shB m l k=false:=by unfold shB;rw[decide_eq_true h];rfl
theorem shB_b {m l k:Nat} (h:7<k) (h2:k≤l):shB m l k=false:=by unfold shB;rw[decide_eq_true h,decide_eq_true h2];simp
theorem shB_c {m l k:Nat} (h:¬m<k) (h2:¬7<k∨¬k≤l):shB m l k=true:=by
 unfold shB
 rw[decide_eq_false h]
 rcases h2 with h2|h2
 ·rw[decide_eq_false h2];rfl
 ·rw[decide_eq_false h2];simp
theorem sh_cases (m l k:Nat):(((m:Int)<(k:Int))∧shB m l k=false)∨((¬(m:Int)<(k:Int))∧(7:Int)<(k:Int)∧(k:Int)≤(l:Int)∧shB m l k=false)∨((¬(m:Int)<(k:Int))∧(7:Int)<(k:Int)∧(¬(k:Int)≤(l:Int))∧shB m l k=true)∨((¬(m:Int)<(k:Int))∧(¬(7:Int)<(k:Int))∧shB m l k=true):=by
 by_cases h1:m<k
 ·exact .inl ⟨by omega,shB_a h1⟩
 ·by_cases h2:7<k
  ·by_cases h3:k≤l
   ·exact .inr (.inl ⟨by omega,by omega,by omega,shB_b h2 h3⟩)
   ·exact .inr (.inr (.inl ⟨by omega,by omega,by omega,shB_c h1 (.inr h3)⟩))
  ·exact .inr (.inr (.inr ⟨by omega,by omega,shB_c h1 (.inl h2)⟩))
theorem lshort_c (a:Option Addr) (n c:Nat) (sets:List (List Int)) (w:World) (h:RC w a n sets) :
  Calls Tryz.prog 30 #[.slice a n c] w fun e w'=>e = .returned (.bool (fewSB sets))∧Below w.heap.size w w':=by
 obtain ⟨R,hR⟩:∃R,R=fewSB sets:=⟨_,rfl⟩
 rw[← hR]
 have HR:=Lib.hid hR
 have HLN:Hid (sets.length=n):=h.1.1
 have hsm:=h.1.2
 have HRC:=Lib.hid h
 have HC:=Lib.hid (sh_cases 40 32 n)
 have HZ:Hid (shB 40 32 n=false→R=false):=fun e=>by
  rw[HR.out]
  unfold fewSB
  rw[HLN.out,e];rfl
 clear h hR
 rcases HC.out with ⟨h1,h2⟩|⟨h1,h2,h3,h4⟩|⟨h1,h2,h3,h4⟩|⟨h1,h2,h3⟩
 ·have d1:decide (((40:Nat):Int)<(n:Int))=true:=decide_eq_true h1
  have HF:=Lib.hid (HZ.out h2)
  clear HC
  go_enter Tryz.func30,Tryz.ntmps30
  go_wp2_with fail
  refine bodyPost_ret (v := .bool false) ?_ rfl ⟨by rw[HF.out],Below.refl _ _⟩
  simp[results,Tryz.f30,go_sem]
 ·have d1:decide (((40:Nat):Int)<(n:Int))=false:=decide_eq_false h1
  have d2:decide ((7:Int)<(n:Int))=true:=decide_eq_true h2
  have d3:decide ((n:Int)≤((32:Nat):Int))=true:=decide_eq_true h3
  have HF:=Lib.hid (HZ.out h4)
  clear HC
  go_enter Tryz.func30,Tryz.ntmps30
  go_wp2_with fail
  refine bodyPost_ret (v := .bool false) ?_ rfl ⟨by rw[HF.out],Below.refl _ _⟩
  simp[results,Tryz.f30,go_sem]
 ·have d1:decide (((40:Nat):Int)<(n:Int))=false:=decide_eq_false h1
  have d2:decide ((7:Int)<(n:Int))=true:=decide_eq_true h2
  have d3:decide ((n:Int)≤((32:Nat):Int))=false:=decide_eq_false h3
  have HS:=Lib.hid h4
  clear HC HZ h4
  go_enter Tryz.func30,Tryz.ntmps30
  go_wp2_with fail
  go_loopw [4,20] (fun _ s20 wr=>∃k:Nat,k≤n∧s20 = .int .i64 (k:Int)∧Hid (∀j,j<k→shB 70 64 (sets[j]?.getD []).length=true)∧wr=w) (fun _ s20 _=>n - (intOf s20).toNat)
  case atStart=>exact ⟨0,by omega,rfl,fun j hj=>absurd hj (by omega),rfl⟩
  case round =>
   obtain ⟨k,hk,rfl,hp,hwr⟩:=hrel
   replace hwr:=hwr.symm
   subst hwr
   by_cases hlt:k<n
   ·obtain ⟨b,off,a',n',c',rfl,hb,hc,hi,_⟩:=HRC.out.2 k hlt
    have hki:(k:Int)<(n:Int):=by omega
    have hm:=hi.small
    have HV:=Lib.hid (sh_cases 70 64 n')
    have HL:Hid ((sets[k]?.getD []).length=n'):=hi.len
    have HMISS:Hid (shB 70 64 (sets[k]?.getD []).length=false→R=false):=fun e=>by
     rw[HR.out]
     unfold fewSB
     rw[allr_miss (p:=fun k=>shB 70 64 (sets[k]?.getD []).length) (by rw[HLN.out];exact hlt) e,Bool.and_false]
    rw[HL.out] at HMISS
    clear hi
    rcases HV.out with ⟨h1,h2⟩|⟨h1,h2,h3,h4⟩|⟨h1,h2,h3,h4⟩|⟨h1,h2,h3⟩
    ·have d1:decide (((70:Nat):Int)<(n':Int))=true:=decide_eq_true h1
     have HF:=Lib.hid (HMISS.out h2)
     clear HV
     go_wp2_with fail
     refine bodyPost_ret (v := .bool false) ?_ rfl ⟨by rw[HF.out],Below.refl _ _⟩
     simp[results,Tryz.f30,go_sem]
    ·have d1:decide (((70:Nat):Int)<(n':Int))=false:=decide_eq_false h1
     have d2:decide ((7:Int)<(n':Int))=true:=decide_eq_true h2
     have d3:decide ((n':Int)≤((64:Nat):Int))=true:=decide_eq_true h3
     have HF:=Lib.hid (HMISS.out h4)
     clear HV
     go_wp2_with fail
     refine bodyPost_ret (v := .bool false) ?_ rfl ⟨by rw[HF.out],Below.refl _ _⟩
     simp[results,Tryz.f30,go_sem]
    ·have d1:decide (((70:Nat):Int)<(n':Int))=false:=decide_eq_false h1
     have d2:decide ((7:Int)<(n':Int))=true:=decide_eq_true h2
     have d3:decide ((n':Int)≤((64:Nat):Int))=false:=decide_eq_false h3
     clear HV
     have HV:Hid (shB 70 64 (sets[k]?.getD []).length=true):=by unfold Hid;rw[HL.out];exact h4
     go_wp2_with fail
     go_roundw
     case rel=>exact ⟨k+1,by omega,by go_num,fun j hj=>by
      rcases Nat.lt_or_ge j k with e|e
      ·exact hp.out j e
      ·rw[show j=k by omega];exact HV.out,trivial⟩
     case measure=>simp[intOf];omega
    ·have d1:decide (((70:Nat):Int)<(n':Int))=false:=decide_eq_false h1
     have d2:decide ((7:Int)<(n':Int))=false:=decide_eq_false h2
     clear HV
     have HV:Hid (shB 70 64 (sets[k]?.getD []).length=true):=by unfold Hid;rw[HL.out];exact h3
     go_wp2_with fail
     go_roundw
     case rel=>exact ⟨k+1,by omega,by go_num,fun j hj=>by
      rcases Nat.lt_or_ge j k with e|e
      ·exact hp.out j e
      ·rw[show j=k by omega];exact HV.out,trivial⟩
     case measure=>simp[intOf];omega
   ·have e:k=n:=by omega
    have hki:¬(k:Int)<(n:Int):=by omega
    have HT:Hid (R=true):=by
     unfold Hid
     rw[HR.out]
     unfold fewSB
     rw[allr_upto (p:=fun k=>shB 70 64 (sets[k]?.getD []).length) (fun i hi=>hp.out i (by rw[HLN.out] at hi;omega)),HLN.out,HS.out];rfl
    clear e
    go_wp2_with fail
    refine bodyPost_ret (v := .bool true) ?_ rfl ⟨by rw[HT.out],Below.refl _ _⟩
    simp[results,Tryz.f30,go_sem]
 ·have d1:decide (((40:Nat):Int)<(n:Int))=false:=decide_eq_false h1
  have d2:decide ((7:Int)<(n:Int))=false:=decide_eq_false h2
  have HS:=Lib.hid h3
  clear HC HZ h3
  go_enter Tryz.func30,Tryz.ntmps30
  go_wp2_with fail
  go_loopw [4,20] (fun _ s20 wr=>∃k:Nat,k≤n∧s20 = .int .i64 (k:Int)∧Hid (∀j,j<k→shB 70 64 (sets[j]?.getD []).length=true)∧wr=w) (fun _ s20 _=>n - (intOf s20).toNat)
  case atStart=>exact ⟨0,by omega,rfl,fun j hj=>absurd hj (by omega),rfl⟩
  case round =>
   obtain ⟨k,hk,rfl,hp,hwr⟩:=hrel
   replace hwr:=hwr.symm
   subst hwr
   by_cases hlt:k<n
   ·obtain ⟨b,off,a',n',c',rfl,hb,hc,hi,_⟩:=HRC.out.2 k hlt
    have hki:(k:Int)<(n:Int):=by omega
    have hm:=hi.small
    have HV:=Lib.hid (sh_cases 70 64 n')
    have HL:Hid ((sets[k]?.getD []).length=n'):=hi.len
    have HMISS:Hid (shB 70 64 (sets[k]?.getD []).length=false→R=false):=fun e=>by
     rw[HR.out]
     unfold fewSB
     rw[allr_miss (p:=fun k=>shB 70 64 (sets[k]?.getD []).length) (by rw[HLN.out];exact hlt) e,Bool.and_false]
    rw[HL.out] at HMISS
    clear hi
    rcases HV.out with ⟨h1,h2⟩|⟨h1,h2,h3,h4⟩|⟨h1,h2,h3,h4⟩|⟨h1,h2,h3⟩
    ·have d1:decide (((70:Nat):Int)<(n':Int))=true:=decide_eq_true h1
     have HF:=Lib.hid (HMISS.out h2)
     clear HV
     go_wp2_with fail
     refine bodyPost_ret (v := .bool false) ?_ rfl ⟨by rw[HF.out],Below.refl _ _⟩
     simp[results,Tryz.f30,go_sem]
    ·have d1:decide (((70:Nat):Int)<(n':Int))=false:=decide_eq_false h1
     have d2:decide ((7:Int)<(n':Int))=true:=decide_eq_true h2
     have d3:decide ((n':Int)≤((64:Nat):Int))=true:=decide_eq_true h3
     have HF:=Lib.hid (HMISS.out h4)
     clear HV
     go_wp2_with fail
     refine bodyPost_ret (v := .bool false) ?_ rfl ⟨by rw[HF.out],Below.refl _ _⟩
     simp[results,Tryz.f30,go_sem]
    ·have d1:decide (((70:Nat):Int)<(n':Int))=false:=decide_eq_false h1
     have d2:decide ((7:Int)<(n':Int))=true:=decide_eq_true h2
     have d3:decide ((n':Int)≤((64:Nat):Int))=false:=decide_eq_false h3
     clear HV
     have HV:Hid (shB 70 64 (sets[k]?.getD []).length=true):=by unfold Hid;rw[HL.out];exact h4
     go_wp2_with fail
     go_roundw
     case rel=>exact ⟨k+1,by omega,by go_num,fun j hj=>by
      rcases Nat.lt_or_ge j k with e|e
      ·exact hp.out j e
      ·rw[show j=k by omega];exact HV.out,trivial⟩
     case measure=>simp[intOf];omega
    ·have d1:decide (((70:Nat):Int)<(n':Int))=false:=decide_eq_false h1
     have d2:decide ((7:Int)<(n':Int))=false:=decide_eq_false h2
     clear HV
     have HV:Hid (shB 70 64 (sets[k]?.getD []).length=true):=by unfold Hid;rw[HL.out];exact h3
     go_wp2_with fail
     go_roundw
     case rel=>exact ⟨k+1,by omega,by go_num,fun j hj=>by
      rcases Nat.lt_or_ge j k with e|e
      ·exact hp.out j e
      ·rw[show j=k by omega];exact HV.out,trivial⟩
     case measure=>simp[intOf];omega
   ·have e:k=n:=by omega
    have hki:¬(k:Int)<(n:Int):=by omega
    have HT:Hid (R=true):=by
     unfold Hid
     rw[HR.out]
     unfold fewSB
     rw[allr_upto (p:=fun k=>shB 70 64 (sets[k]?.getD []).length) (fun i hi=>hp.out i (by rw[HLN.out] at hi;omega)),HLN.out,HS.out];rfl
    clear e
    go_wp2_with fail
    refine bodyPost_ret (v := .bool true) ?_ rfl ⟨by rw[HT.out],Below.refl _ _⟩
    simp[results,Tryz.f30,go_sem]
end
end Go.Proofs.YtmfpdakaeagdpaaGreat
