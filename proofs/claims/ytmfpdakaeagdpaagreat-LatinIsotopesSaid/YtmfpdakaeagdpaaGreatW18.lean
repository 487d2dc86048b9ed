/- Texts J72 to J74 of this proof, in one file. -/
import Derived.Test.YtmfpdakaeagdpaaGreatW01
import Derived.Test.YtmfpdakaeagdpaaGreatW02
import Derived.Test.YtmfpdakaeagdpaaGreatW03
import Derived.Test.YtmfpdakaeagdpaaGreatW04
import Derived.Test.YtmfpdakaeagdpaaGreatW05
import Derived.Test.YtmfpdakaeagdpaaGreatW06
import Derived.Test.YtmfpdakaeagdpaaGreatW07
import Derived.Test.YtmfpdakaeagdpaaGreatW08
import Derived.Test.YtmfpdakaeagdpaaGreatW09
import Derived.Test.YtmfpdakaeagdpaaGreatW10
import Derived.Test.YtmfpdakaeagdpaaGreatW11
import Derived.Test.YtmfpdakaeagdpaaGreatW13
import Derived.Test.YtmfpdakaeagdpaaGreatW16
import Derived.Test.YtmfpdakaeagdpaaGreatW17
import Derived.Below
import Derived.BigFrame
import Derived.BigQuiet
import Derived.Deep.CutBlock
import Derived.Deep.CutRange
import Derived.Deep.LoopGhost
import Derived.Deep.Quiet
import Derived.Deep.RegionHeld3
import Derived.DeepKeys4
import Derived.KernelRfl
import Derived.Laws.BitsAllLaws
import Derived.Laws.EntriesVeiled
import Derived.Lib.AppendZeros
import Derived.Lib.Hide
import Derived.Lib.SlKeysI
import Derived.Lib.SliceRun
import Derived.LoopIn
import Derived.LoopNIn
import Derived.Maps.AppendAt
import Derived.Maps.OwnIn
import Derived.Maps.OwnSet
import Derived.OneCell
import Derived.OrdersHeld
import Derived.OrdersIn
import Derived.OwnWalkIn
import Derived.RangeFuncBound
import Derived.RangeFuncBox
import Derived.RangeFuncCalls
import Derived.RangeFuncLeaves
import Derived.RangeFuncNested
import Derived.RangeFuncWrites
import Derived.Shelf.Abstract
import Derived.Shelf.SortM.Plain
import Derived.Still
import Derived.TacticsIn
import Derived.TacticsInMore
import Derived.Test.YtmfpdakaeagdpaaGreatProg
import Derived.WalkKit
import Derived.WalkLawsBesides
import Derived.WalkSpells
import Derived.WideKeyPair
namespace Go.Proofs.YtmfpdakaeagdpaaGreat
set_option maxRecDepth 100000
set_option maxHeartbeats 16000000
section
open Go Go.RowKit Go.Maps
attribute [local go_sem] over_cell
attribute [local go_sem] Oper.semAt_some
section
variable {α:Type} [DecidableEq α] {P:Program} (w:World) {ops:Array Oper} {rest:List Oper} {o:Oper} {a:Act} {Q:Exit→Act→World→Prop}
theorem wpList_lenC (hg:o.guard=none) (m:Operand) (t:TypeId) (hop:o.op=Op.call { callee:=Callee.builtin Builtin.len,args:=#[m],argTypes:=#[t] }) (k e:TypeId) (ht:P.underlying t=some (.map k e)) (κ:α→Lit) (b:Nat) (L:List α) (g:α→Bool) (hm:a.eval m = .map (some b)) (h:MapC w P k e κ b L g)
  (hK:wpList P ops Q rest (a.put o.dst (.int .i64 (L.length:Int))) w):wpList P ops Q (o :: rest) a w:=by
 obtain ⟨D,h1,h2,_⟩:=h
 refine wpList_len_own w hg m t hop k e ht (plainElem P e) b L.length D hm h1 ?_
 rw[h2.2.1];exact hK
end
def keysI (l:List Int):List Int:=l.foldl addK []
theorem keysI_snoc (l:List Int) (x:Int):keysI (l++[x])=addK (keysI l) x:=by unfold keysI;rw[List.foldl_append];rfl
theorem mem_foldK:∀(l K:List Int) (x:Int),x∈l.foldl addK K↔x∈K∨x∈l
 | [],K,x=>by simp
 | y :: l,K,x=>by
  rw[List.foldl_cons,mem_foldK l (addK K y) x,mem_addK,List.mem_cons]
  constructor
  ·rintro ((e|e)|e)
   ·exact .inr (.inl e)
   ·exact .inl e
   ·exact .inr (.inr e)
  ·rintro (e|e|e)
   ·exact .inl (.inr e)
   ·exact .inl (.inl e)
   ·exact .inr e
theorem mem_keysI {l:List Int} {x:Int}:x∈keysI l↔x∈l:=by unfold keysI;rw[mem_foldK];simp
theorem keysI_nodup (l:List Int):(keysI l).Nodup:=by
 unfold keysI
 have:∀(l K:List Int),K.Nodup→(l.foldl addK K).Nodup:=fun l=>by
  induction l with
  | nil=>intro K h;exact h
  | cons y l ih=>intro K h;exact ih _ (addK_nodup h y)
 exact this l [] List.nodup_nil
theorem map_addK (K:List Nk) (z:Nk):(addK K z).map (·.1)=addK (K.map (·.1)) z.1:=by
 unfold addK
 by_cases h:z∈K
 ·rw[if_pos h,if_pos (List.mem_map.2 ⟨z,h,rfl⟩)]
 ·rw[if_neg h,if_neg (fun e=>by
   obtain ⟨y,hy,e2⟩:=List.mem_map.1 e
   exact h (by rw[← Subtype.ext e2];exact hy)),List.map_cons]
def choE1 (n:Nat) (ch:List Int) (i:Nat):Int:=firstL [whenV (decide (ch[i]?.getD 0<0)||decide ((n:Int)≤ch[i]?.getD 0)) 10,whenV (decide (0<i)&&decide (ch[i]?.getD 0≤ch[i - 1]?.getD 0)) 11]
def choE (n:Nat) (ch:List Int):Int:=firstL ((List.range ch.length).map (choE1 n ch))
theorem choE_get (n:Nat) (ch:List Int) {j:Nat} (hj:j<ch.length):((List.range ch.length).map (choE1 n ch))[j]?.getD 0=choE1 n ch j:=by
 rw[List.getElem?_map,List.getElem?_range hj];rfl
theorem choE_hit {n:Nat} {ch:List Int} {i:Nat} (hi:i<ch.length) (hb:∀j,j<i→choE1 n ch j=0) (h:choE1 n ch i≠0):choE n ch=choE1 n ch i:=by
 unfold choE
 rw[← choE_get n ch hi]
 exact firstL_hit (fun j hj=>by rw[choE_get n ch (by omega)];exact hb j hj) (by rw[List.length_map,List.length_range];exact hi) (by rw[choE_get n ch hi];exact h)
theorem choE_none {n:Nat} {ch:List Int} (hb:∀j,j<ch.length→choE1 n ch j=0):choE n ch=0 :=
 firstL_none (fun j hj=>by
  rw[List.length_map,List.length_range] at hj
  rw[choE_get n ch hj];exact hb j hj)
def uniTo (sets:List (List Int)) (ch:List Int) (i:Nat):List Int:=(List.range i).flatMap fun j=>sets[(ch[j]?.getD 0).toNat]?.getD []
theorem uniTo_succ (sets:List (List Int)) (ch:List Int) (i:Nat):uniTo sets ch (i+1)=uniTo sets ch i++sets[(ch[i]?.getD 0).toNat]?.getD []:=by
 unfold uniTo;rw[List.range_succ,List.flatMap_append];simp
def chE (sets:List (List Int)) (ch:List Int):Int :=
 if stE sets=0 then (if choE sets.length ch=0 then whenV (decide (ch.length≤(keysI (uniTo sets ch ch.length)).length)) 19 else choE sets.length ch) else stE sets
structure ChW (w:World) (sets:List (List Int)) (m:Nat) (l:List Int) (W:World):Prop where
 base:Below w.heap.size w W
 lo:w.heap.size≤m
 map:∃(K:List Nk) (g:Nk→Bool),MapC W Tryz.prog 3 4 kapN m K g∧K.map (·.1)=keysI l∧∀x,x∈l→x∈sets.flatten
theorem ChW.below {w:World} {sets:List (List Int)} {m:Nat} {l:List Int} {W W':World} (h:ChW w sets m l W) (hb:Below W.heap.size W W'):ChW w sets m l W':=by
 obtain ⟨K,g,h1,h2,h3⟩:=h.map
 exact ⟨keep_trans h.base hb,h.lo,K,g,h1.mono hb h1.lt,h2,h3⟩
theorem checkhall_c (a:Option Addr) (n c:Nat) (sets:List (List Int)) (a2:Option Addr) (nc c2:Nat) (ch:List Int) (w:World) (h:RC w a n sets) (h2:IC w a2 nc ch) :
  Calls Tryz.prog 33 #[.slice a n c,.slice a2 nc c2] w fun e w'=>e = .returned (.int .i64 (chE sets ch))∧Below w.heap.size w w':=by
 have HC:=Lib.hid (csets_c a n c sets w h)
 by_cases h0:stE sets=0
 ·have hE:chE sets ch=if choE sets.length ch=0 then whenV (decide (ch.length≤(keysI (uniTo sets ch ch.length)).length)) 19 else choE sets.length ch:=if_pos h0
  have hB:=(stE_ok h0).1.ok
  have hln:=h.1.1
  have hlc:=h2.len
  have hn32:n≤32:=by have:=(stE_ok h0).1.few;omega
  rw[hln,hlc] at hE
  rw[h0] at HC
  have HHIT:=Lib.hid (fun i=>choE_hit (n:=n) (ch:=ch) (i:=i))
  have HNON:=Lib.hid (choE_none (n:=n) (ch:=ch))
  rw[hlc] at HHIT HNON
  obtain ⟨er,her⟩:∃er,er=chE sets ch:=⟨_,rfl⟩
  rw[← her] at hE ⊢
  have HE:=Lib.hid hE
  have HRC:=Lib.hid h
  have HIC:=Lib.hid h2
  have HB:=Lib.hid hB
  have HLN:=Lib.hid hln
  have HLC:=Lib.hid hlc
  have hsm:=h2.small
  have hmm:=@run_makeMap Tryz.prog
  clear h0 hE her h h2 hB hln hlc
  go_enter Tryz.func33,Tryz.ntmps33
  go_upto_region 5 with (first|(go_at_call 108;refine HC.out.mono ?_;rintro _ w1 ⟨rfl,hb1⟩)|fail)
  have hM0:MapC (w1.alloc (.map #[] 0)) Tryz.prog 3 4 kapN w1.heap.size [] (fun _=>false):=MapC.made
  have hCW:ChW w sets w1.heap.size [] (w1.alloc (.map #[] 0)):=⟨keep_trans hb1 ((Below.refl _ _).alloc (Nat.le_refl _) _),hb1.size,[],_,hM0,rfl,fun x hx=>by cases hx⟩
  have HCW:=Lib.hid hCW
  obtain ⟨m,hm⟩:∃m,m=w1.heap.size:=⟨_,rfl⟩
  rw[← hm] at HCW ⊢
  generalize (w1.alloc (.map #[] 0))=W2 at HCW ⊢
  clear hM0 hCW hb1 hm hmm
  go_wp2_with fail
  go_loopw [7,8,9,11,20] (fun _ _ _ _ s20 wr=>∃i:Nat,i≤nc∧s20 = .int .i64 (i:Int)∧Hid (∀j,j<i→choE1 n ch j=0)∧Hid (ChW w sets m (uniTo sets ch i) wr)) (fun _ _ _ _ s20 _=>nc - (intOf s20).toNat)
  case atStart=>exact ⟨0,by omega,rfl,fun j hj=>absurd hj (by omega),HCW⟩
  case round =>
   obtain ⟨i,hi1,rfl,hbf,hcw⟩:=hrel
   clear HCW
   by_cases hlt:i<nc
   ·have hki:(i:Int)<(nc:Int):=by omega
    have hic:=HIC.out.mono hcw.out.base
    obtain ⟨b1,off1,rfl,hbl1,hc1⟩:=hic.2 i hlt
    have HE1:Hid (choE1 n ch i=firstL [whenV (decide (ch[i]?.getD 0<0)||decide ((n:Int)≤ch[i]?.getD 0)) 10,whenV (decide (0<i)&&decide (ch[i]?.getD 0≤ch[i - 1]?.getD 0)) 11]):=rfl
    have HHI:=Lib.hid (HHIT.out i hlt hbf.out)
    have HU:=Lib.hid (uniTo_succ sets ch i)
    have HNXT:Hid (choE1 n ch i=0→∀j,j<i+1→choE1 n ch j=0):=fun e j hj=>by
     rcases Nat.lt_or_ge j i with e2|e2
     ·exact hbf.out j e2
     ·rw[show j=i by omega];exact e
    have hpv:0<i→∃b9,b9=b1∧wr.cell? ⟨b1,off1+(i - 1),none⟩=some (.int .i64 (ch[i - 1]?.getD 0)):=fun h0=>by
     obtain ⟨b9,o9,e9,_,hc9⟩:=hic.2 (i - 1) (by omega)
     cases e9
     exact ⟨_,rfl,hc9⟩
    obtain ⟨k,hke⟩:∃k,k=ch[i]?.getD 0:=⟨_,rfl⟩
    rw[← hke] at hc1 HE1 HU
    obtain ⟨e1,he1⟩:∃e1,e1=choE1 n ch i:=⟨_,rfl⟩
    rw[← he1] at HE1 HHI HNXT
    clear hic hke he1
    -- an error comes back
    have HRET:Hid (e1≠0→er=e1):=fun hne=>by
     rw[HE.out,HHI.out hne,if_neg hne]
    by_cases hi0:¬0<i
    ·have hb0:decide (0<i)=false:=decide_eq_false hi0
     have hdi:decide ((0:Int)<(i:Int))=false:=decide_eq_false (by omega)
     rw[hb0,Bool.false_and] at HE1
     by_cases hk0:k<0
     ·have hd1:decide (k<0)=true:=decide_eq_true hk0
      rw[hd1,Bool.true_or] at HE1
      have hv:e1=10:=HE1.out
      have hre:er=10:=by rw[HRET.out (by rw[hv];decide),hv]
      rw[hv] at HE1
      have HF:=Lib.hid HE1.out.symm
      clear HE1 hv HRET HNXT HHI
      subst hre
      go_wp2_with (first|(go_at_call 93;refine (twhen_c _ _ _).mono ?_;rintro _ w3 ⟨rfl,rfl⟩)|(go_at_call 92;refine (tfirst_c _ _ _ _ _ (IC.new2 _ _ _ _)).mono ?_;rw[HF.out];rintro _ w4 ⟨rfl,rfl⟩)|fail)
      go_ret
      exact ⟨rfl,keep_alloc hcw.out.base _⟩
     ·have hd1:decide (k<0)=false:=decide_eq_false hk0
      by_cases hk1:(n:Int)≤k
      ·have hd2:decide ((n:Int)≤k)=true:=decide_eq_true hk1
       rw[hd1,hd2,Bool.false_or] at HE1
       have hv:e1=10:=HE1.out
       have hre:er=10:=by rw[HRET.out (by rw[hv];decide),hv]
       rw[hv] at HE1
       have HF:=Lib.hid HE1.out.symm
       clear HE1 hv HRET HNXT HHI
       subst hre
       go_wp2_with (first|(go_at_call 93;refine (twhen_c _ _ _).mono ?_;rintro _ w3 ⟨rfl,rfl⟩)|(go_at_call 92;refine (tfirst_c _ _ _ _ _ (IC.new2 _ _ _ _)).mono ?_;rw[HF.out];rintro _ w4 ⟨rfl,rfl⟩)|fail)
       go_ret
       exact ⟨rfl,keep_alloc hcw.out.base _⟩
      ·have hd2:decide ((n:Int)≤k)=false:=decide_eq_false hk1
       rw[hd1,hd2,Bool.false_or] at HE1
       have hv:e1=0:=HE1.out
       have HN2:=Lib.hid (HNXT.out hv)
       rw[hv] at HE1
       have HF:=Lib.hid HE1.out.symm
       clear HE1 hv HRET HNXT HHI
       obtain ⟨k',rfl⟩:∃k':Nat,k=(k':Int):=⟨k.toNat,by omega⟩
       have hk':k'<n:=by omega
       obtain ⟨b3,off3,a',n',c',rfl,hbl3,hc3,hi3,_⟩:=HRC.out.2 k' hk'
       have hc4:=(hcw.out.base.cell (p:=⟨b3,off3+k',none⟩) hbl3).trans hc3
       have hbl4:=Nat.lt_of_lt_of_le hbl3 hcw.out.base.size
       rw[Int.toNat_natCast] at HU
       have HXF:Hid (∀x,x∈sets[k']?.getD []→x∈sets.flatten):=fun x hx=>by
        rw[List.getElem?_eq_getElem (by have:=HLN.out;omega),Option.getD_some] at hx
        exact List.mem_flatten.2 ⟨_,List.getElem_mem _,hx⟩
       obtain ⟨xs,hxs⟩:∃xs,xs=sets[k']?.getD []:=⟨_,rfl⟩
       rw[← hxs] at hi3 HU HXF
       have hxl:=hi3.len
       have hxm:=hi3.small
       have HI3:=Lib.hid hi3
       have HXL:=Lib.hid hxl
       have hki3:(k':Int)<(n:Int):=by omega
       clear hxs hi3 hxl hbl3 hc3
       go_wp2_with (first|(go_at_call 93;refine (twhen_c _ _ _).mono ?_;rintro _ w3 ⟨rfl,rfl⟩)|(go_at_call 92;refine (tfirst_c _ _ _ _ _ (IC.new2 _ _ _ _)).mono ?_;rw[HF.out];rintro _ w4 ⟨rfl,rfl⟩)|fail)
       go_loopw [11,56] (fun _ s56 wr9=>∃j:Nat,j≤n'∧s56 = .int .i64 (j:Int)∧Hid (ChW w sets m (uniTo sets ch (i)++xs.take j) wr9)) (fun _ s56 _=>n' - (intOf s56).toNat)
       case atStart=>exact ⟨0,by omega,rfl,by rw[List.take_zero,List.append_nil];exact hcw.out.below (keep_alloc (Below.refl _ _) _)⟩
       case round =>
        obtain ⟨j,hj,rfl,hcw2⟩:=hrel
        by_cases hlt2:j<n'
        ·obtain ⟨b5,off5,rfl,hbl5,hc5⟩:=(HI3.out.mono hcw2.out.base).2 j hlt2
         have hkj:(j:Int)<(n':Int):=by omega
         have hxm2:xs[j]?.getD 0∈xs:=by rw[List.getElem?_eq_getElem (by have:=HXL.out;omega)];exact List.getElem_mem _
         have hxf:=HXF.out _ hxm2
         have hxr:=HB.out.num _ hxf
         have HTK:Hid (xs.take (j+1)=xs.take j++[xs[j]?.getD 0]):=by
          unfold Hid
          rw[List.take_add_one,List.getElem?_eq_getElem (by have:=HXL.out;omega)];rfl
         obtain ⟨x,hx⟩:∃x,x=xs[j]?.getD 0:=⟨_,rfl⟩
         rw[← hx] at hc5 hxr HTK hxf
         obtain ⟨z,hz⟩:∃z:Nk,z=⟨x,wf64 (by omega) (by omega)⟩:=⟨_,rfl⟩
         have hzx:z.1=x:=by rw[hz]
         have HKY:Hid (keyOf Tryz.prog 3 (.int .i64 x)=some (kapN z)):=by unfold Hid;rw[← hzx];exact keyN z
         obtain ⟨K,gk,hM,hK,hin⟩:=hcw2.out.map
         have hKl:K.length≤4096:=by
          have h1:(K.map (·.1)).length≤sets.flatten.length:=by
           rw[hK]
           exact nodupI_le (keysI_nodup _) (fun y hy=>hin y (mem_keysI.1 hy))
          rw[List.length_map] at h1
          have:=HB.out.few.2
          omega
         have HZX:=Lib.hid hzx
         have HM:=Lib.hid hM
         have HKK:=Lib.hid hK
         have HIN:=Lib.hid hin
         have HXF2:=Lib.hid hxf
         clear hx hz hzx hM hK hin hxm2 hxf
         go_wp2_with (first|(refine wpList_putC _ rfl _ _ _ 124 rfl 3 4 intKeyed Tryz.underlying124 Tryz.underlying4 kapN injN m K gk rfl HM.out (by unfold maxLen;omega) _ z true rfl rfl HKY.out ?_;intro w6 hM7 hg6)|fail)
         go_roundw
         case rel =>
          have hs6:Stays (fun k=>k=m) wr w6:=Stays.grown hg6 (fun k e=>by cases e;rfl)
          refine ⟨j+1,by omega,by go_num,⟨hs6.below' hcw2.out.base.size hcw2.out.base (fun k e=>by rw[e];exact hcw2.out.lo),hcw2.out.lo,addK K z,_,hM7,?_,fun y hy=>?_⟩⟩
          ·rw[map_addK,HKK.out,HZX.out,HTK.out,← List.append_assoc,keysI_snoc]
          ·rw[HTK.out,← List.append_assoc] at hy
           rcases List.mem_append.1 hy with e|e
           ·exact HIN.out y e
           ·rw[List.mem_singleton.1 e];exact HXF2.out
         case measure=>simp[intOf];omega
        ·have e:j=n':=by omega
         subst e
         go_wp2_with fail
         go_roundw
         case rel=>exact ⟨i+1,by omega,by go_num,HN2,by
          rw[HU.out]
          have h9:=hcw2.out
          rw[List.take_of_length_le (by have:=HXL.out;omega)] at h9
          exact h9⟩
         case measure=>simp[intOf];omega
    ·obtain ⟨i,rfl⟩:∃i':Nat,i=i'+1:=⟨i - 1,by omega⟩
     obtain ⟨b9,_,hcp⟩:=hpv (by omega)
     clear hi0
     rw[Nat.add_sub_cancel] at hcp HE1
     have hb0:decide (0<i+1)=true:=decide_eq_true (by omega)
     rw[hb0,Bool.true_and] at HE1
     generalize ch[i]?.getD 0=pv at hcp HE1
     by_cases hk0:k<0
     ·have hd1:decide (k<0)=true:=decide_eq_true hk0
      rw[hd1,Bool.true_or] at HE1
      have hv:e1=10:=HE1.out
      have hre:er=10:=by rw[HRET.out (by rw[hv];decide),hv]
      rw[hv] at HE1
      have HF:=Lib.hid HE1.out.symm
      clear HE1 hv HRET HNXT HHI
      subst hre
      go_wp2_with (first|(go_at_call 93;refine (twhen_c _ _ _).mono ?_;rintro _ w3 ⟨rfl,rfl⟩)|(go_at_call 92;refine (tfirst_c _ _ _ _ _ (IC.new2 _ _ _ _)).mono ?_;rw[HF.out];rintro _ w4 ⟨rfl,rfl⟩)|fail)
      go_ret
      exact ⟨rfl,keep_alloc hcw.out.base _⟩
     ·have hd1:decide (k<0)=false:=decide_eq_false hk0
      by_cases hk1:(n:Int)≤k
      ·have hd2:decide ((n:Int)≤k)=true:=decide_eq_true hk1
       rw[hd1,hd2,Bool.false_or] at HE1
       have hv:e1=10:=HE1.out
       have hre:er=10:=by rw[HRET.out (by rw[hv];decide),hv]
       rw[hv] at HE1
       have HF:=Lib.hid HE1.out.symm
       clear HE1 hv HRET HNXT HHI
       subst hre
       go_wp2_with (first|(go_at_call 93;refine (twhen_c _ _ _).mono ?_;rintro _ w3 ⟨rfl,rfl⟩)|(go_at_call 92;refine (tfirst_c _ _ _ _ _ (IC.new2 _ _ _ _)).mono ?_;rw[HF.out];rintro _ w4 ⟨rfl,rfl⟩)|fail)
       go_ret
       exact ⟨rfl,keep_alloc hcw.out.base _⟩
      ·have hd2:decide ((n:Int)≤k)=false:=decide_eq_false hk1
       rw[hd1,hd2,Bool.false_or] at HE1
       by_cases hk2:k≤pv
       ·have hd3:decide (k≤pv)=true:=decide_eq_true hk2
        rw[hd3] at HE1
        have hv:e1=11:=HE1.out
        have hre:er=11:=by rw[HRET.out (by rw[hv];decide),hv]
        rw[hv] at HE1
        have HF:=Lib.hid HE1.out.symm
        clear HE1 hv HRET HNXT HHI
        subst hre
        go_wp2_with (first|(go_at_call 93;refine (twhen_c _ _ _).mono ?_;rintro _ w3 ⟨rfl,rfl⟩)|(go_at_call 92;refine (tfirst_c _ _ _ _ _ (IC.new2 _ _ _ _)).mono ?_;rw[HF.out];rintro _ w4 ⟨rfl,rfl⟩)|fail)
        go_ret
        exact ⟨rfl,keep_alloc hcw.out.base _⟩
       ·have hd3:decide (k≤pv)=false:=decide_eq_false hk2
        rw[hd3] at HE1
        have hv:e1=0:=HE1.out
        have HN2:=Lib.hid (HNXT.out hv)
        rw[hv] at HE1
        have HF:=Lib.hid HE1.out.symm
        clear HE1 hv HRET HNXT HHI
        obtain ⟨k',rfl⟩:∃k':Nat,k=(k':Int):=⟨k.toNat,by omega⟩
        have hk':k'<n:=by omega
        obtain ⟨b3,off3,a',n',c',rfl,hbl3,hc3,hi3,_⟩:=HRC.out.2 k' hk'
        have hc4:=(hcw.out.base.cell (p:=⟨b3,off3+k',none⟩) hbl3).trans hc3
        have hbl4:=Nat.lt_of_lt_of_le hbl3 hcw.out.base.size
        rw[Int.toNat_natCast] at HU
        have HXF:Hid (∀x,x∈sets[k']?.getD []→x∈sets.flatten):=fun x hx=>by
         rw[List.getElem?_eq_getElem (by have:=HLN.out;omega),Option.getD_some] at hx
         exact List.mem_flatten.2 ⟨_,List.getElem_mem _,hx⟩
        obtain ⟨xs,hxs⟩:∃xs,xs=sets[k']?.getD []:=⟨_,rfl⟩
        rw[← hxs] at hi3 HU HXF
        have hxl:=hi3.len
        have hxm:=hi3.small
        have HI3:=Lib.hid hi3
        have HXL:=Lib.hid hxl
        have hki3:(k':Int)<(n:Int):=by omega
        clear hxs hi3 hxl hbl3 hc3
        go_wp2_with (first|(go_at_call 93;refine (twhen_c _ _ _).mono ?_;rintro _ w3 ⟨rfl,rfl⟩)|(go_at_call 92;refine (tfirst_c _ _ _ _ _ (IC.new2 _ _ _ _)).mono ?_;rw[HF.out];rintro _ w4 ⟨rfl,rfl⟩)|fail)
        go_loopw [11,56] (fun _ s56 wr9=>∃j:Nat,j≤n'∧s56 = .int .i64 (j:Int)∧Hid (ChW w sets m (uniTo sets ch (i+1)++xs.take j) wr9)) (fun _ s56 _=>n' - (intOf s56).toNat)
        case atStart=>exact ⟨0,by omega,rfl,by rw[List.take_zero,List.append_nil];exact hcw.out.below (keep_alloc (Below.refl _ _) _)⟩
        case round =>
         obtain ⟨j,hj,rfl,hcw2⟩:=hrel
         by_cases hlt2:j<n'
         ·obtain ⟨b5,off5,rfl,hbl5,hc5⟩:=(HI3.out.mono hcw2.out.base).2 j hlt2
          have hkj:(j:Int)<(n':Int):=by omega
          have hxm2:xs[j]?.getD 0∈xs:=by rw[List.getElem?_eq_getElem (by have:=HXL.out;omega)];exact List.getElem_mem _
          have hxf:=HXF.out _ hxm2
          have hxr:=HB.out.num _ hxf
          have HTK:Hid (xs.take (j+1)=xs.take j++[xs[j]?.getD 0]):=by
           unfold Hid
           rw[List.take_add_one,List.getElem?_eq_getElem (by have:=HXL.out;omega)];rfl
          obtain ⟨x,hx⟩:∃x,x=xs[j]?.getD 0:=⟨_,rfl⟩
          rw[← hx] at hc5 hxr HTK hxf
          obtain ⟨z,hz⟩:∃z:Nk,z=⟨x,wf64 (by omega) (by omega)⟩:=⟨_,rfl⟩
          have hzx:z.1=x:=by rw[hz]
          have HKY:Hid (keyOf Tryz.prog 3 (.int .i64 x)=some (kapN z)):=by unfold Hid;rw[← hzx];exact keyN z
          obtain ⟨K,gk,hM,hK,hin⟩:=hcw2.out.map
          have hKl:K.length≤4096:=by
           have h1:(K.map (·.1)).length≤sets.flatten.length:=by
            rw[hK]
            exact nodupI_le (keysI_nodup _) (fun y hy=>hin y (mem_keysI.1 hy))
           rw[List.length_map] at h1
           have:=HB.out.few.2
           omega
          have HZX:=Lib.hid hzx
          have HM:=Lib.hid hM
          have HKK:=Lib.hid hK
          have HIN:=Lib.hid hin
          have HXF2:=Lib.hid hxf
          clear hx hz hzx hM hK hin hxm2 hxf
          go_wp2_with (first|(refine wpList_putC _ rfl _ _ _ 124 rfl 3 4 intKeyed Tryz.underlying124 Tryz.underlying4 kapN injN m K gk rfl HM.out (by unfold maxLen;omega) _ z true rfl rfl HKY.out ?_;intro w6 hM7 hg6)|fail)
          go_roundw
          case rel =>
           have hs6:Stays (fun k=>k=m) wr w6:=Stays.grown hg6 (fun k e=>by cases e;rfl)
           refine ⟨j+1,by omega,by go_num,⟨hs6.below' hcw2.out.base.size hcw2.out.base (fun k e=>by rw[e];exact hcw2.out.lo),hcw2.out.lo,addK K z,_,hM7,?_,fun y hy=>?_⟩⟩
           ·rw[map_addK,HKK.out,HZX.out,HTK.out,← List.append_assoc,keysI_snoc]
           ·rw[HTK.out,← List.append_assoc] at hy
            rcases List.mem_append.1 hy with e|e
            ·exact HIN.out y e
            ·rw[List.mem_singleton.1 e];exact HXF2.out
          case measure=>simp[intOf];omega
         ·have e:j=n':=by omega
          subst e
          go_wp2_with fail
          go_roundw
          case rel=>exact ⟨i+1+1,by omega,by go_num,HN2,by
           rw[HU.out]
           have h9:=hcw2.out
           rw[List.take_of_length_le (by have:=HXL.out;omega)] at h9
           exact h9⟩
          case measure=>simp[intOf];omega
   ·have e:i=nc:=by omega
    subst e
    have h00:choE n ch=0:=HNON.out hbf.out
    obtain ⟨K,g,hM,hK,_⟩:=hcw.out.map
    have HER:Hid (er=whenV (decide (i≤K.length)) 19):=by
     unfold Hid
     rw[HE.out,if_pos h00,← hK,List.length_map]
    have HM:=Lib.hid hM
    clear hM hK h00
    go_wp2_with (first|(refine wpList_lenC _ rfl _ 124 rfl 3 4 Tryz.underlying124 kapN m K g rfl HM.out ?_)|(go_at_call 93;refine (twhen_c _ _ _).mono ?_;rintro _ w3 ⟨rfl,rfl⟩)|fail)
    go_ret
    refine ⟨ret_int ?_,hcw.out.base⟩
    rw[HER.out]
 ·have hE:chE sets ch=stE sets:=if_neg h0
  rw[hE]
  have h0':(stE sets != 0)=true:=by simpa using h0
  generalize stE sets=er at HC h0' ⊢
  clear hE h0 h h2
  go_enter Tryz.func33,Tryz.ntmps33
  go_wp2_with (first|(go_at_call 108;refine HC.out.mono ?_;rintro _ w1 ⟨rfl,hb1⟩)|fail)
  go_ret
  exact ⟨rfl,hb1⟩
end
section
open Go Go.RowKit
attribute [local go_sem] over_cell
attribute [local go_sem] Oper.semAt_some
theorem zerosI_len (m:Nat):(Builtin.zeroCells #[.int .i64 0] m).size=m:=by simp[Builtin.zeroCells]
theorem igrow_c (m:Nat) (w:World) (hm:m≤1000000) :
  Calls Tryz.prog 167 #[.slice none 0 0,.int .i64 (m:Int)] w fun e w'=>∃v,e = .returned v∧w'.ownsRow w.heap.size 3 1 v 0 []∧Below w.heap.size w w':=by
 obtain ⟨i0,hi,hz0,hz1,hz2⟩:=info_parts infoInt
 have h1:¬((m:Int)<0):=by omega
 by_cases h0:m=0
 ·subst h0
  go_enter Tryz.func167,Tryz.ntmps167
  go_wp2
  go_ret
  exact ⟨_,rfl,World.ownsRow_nil _ _ _ _,Below.refl _ _⟩
 ·have hpos:(m:Int)>0:=by omega
  have hr:=Go.Lib.run_append_nil_zeros (P:=Tryz.prog) w 22 3 22 3 i0 (.int .i64 0) .i64 .i64 Tryz.underlying22 Tryz.underlying3 hi hz0 m (by omega) (by omega) (by omega) (by rw[hz2];omega)
  go_enter Tryz.func167,Tryz.ntmps167
  go_wp2_with (at_builtin;refine Lib.wpList_append_run _ rfl _ _ _ _ rfl _ _ rfl rfl _ _ hr ?_)
  go_ret
  refine ⟨_,rfl,⟨rfl,.inr ⟨w.heap.size,grownCap w m 0 3,_,rfl,Nat.le_refl _,World.alloc_heap_new _ _,Nat.zero_le _,?_,?_,rfl⟩⟩,((Below.refl _ _).drew.alloc (Nat.le_refl _) _)⟩
  ·exact grownCap_le_maxLen _ _ _ _ (by unfold maxLen;omega)
  ·have:=grownCap_ge w m 0 3
   rw[Array.size_append]
   rw[zerosI_len,zerosI_len];omega
def catI (Ts:List (List Int)) (k:Nat):List Int:=(Ts.take k).flatten
theorem catI_succ {Ts:List (List Int)} {k:Nat} (h:k<Ts.length):catI Ts (k+1)=catI Ts k++Ts[k]?.getD []:=by
 unfold catI
 rw[List.take_add_one,List.getElem?_eq_getElem h,List.flatten_append,Option.toList_some,List.flatten_singleton,Option.getD_some]
theorem catI_le (Ts:List (List Int)) (k:Nat):(catI Ts k).length≤Ts.flatten.length:=by
 unfold catI
 conv=>rhs;rw[← List.take_append_drop k Ts,List.flatten_append,List.length_append]
 omega
theorem iconcat_c (a:Option Addr) (n c:Nat) (Ts:List (List Int)) (w:World) (h:RC w a n Ts) (hn:n≤1000) (hT:Ts.flatten.length≤1000000) :
  Calls Tryz.prog 118 #[.slice a n c] w fun e w'=>∃v,e = .returned v∧w'.ownsRow w.heap.size 3 1 v Ts.flatten.length (Ts.flatten.map (Value.int .i64))∧Below w.heap.size w w':=by
 obtain ⟨i0,hi,hz0,hz1,hz2⟩:=info_parts infoInt
 have H:=Lib.hid h
 have HS:Hid (∀k,k<n→catI Ts (k+1)=catI Ts k++Ts[k]?.getD []):=fun k hk=>catI_succ (by rw[h.1.1];exact hk)
 have HE:Hid (catI Ts n=Ts.flatten):=by unfold Hid catI;rw[← h.1.1,List.take_length]
 have HB:Hid (∀k,(catI Ts k).length≤1000000):=fun k=>Nat.le_trans (catI_le Ts k) hT
 have H0:Hid (catI Ts 0=[]):=rfl
 generalize Ts.flatten=F at HE hT ⊢
 generalize hcat:catI Ts=C at HS HE HB H0
 clear hcat h
 go_enter Tryz.func118,Tryz.ntmps118
 go_wp2
 go_loop [3,5,11] (fun s _ i=>∃k:Nat,k≤n∧i = .int .i64 k∧s = .int .i64 ((C k).length:Int)) (fun _ _ i=>n - (intOf i).toNat)
 case atStart=>exact ⟨0,by omega,rfl,by rw[H0.out];rfl⟩
 case round =>
  obtain ⟨k,hk,rfl,rfl⟩:=hrel
  have hbk:=HB.out k
  by_cases hlt:k<n
  ·obtain ⟨b,off,a',n',c',rfl,hbb,hc,ht,_⟩:=H.out.2 k hlt
   have hS:=Lib.hid (HS.out k hlt)
   have htl:=ht.1.1
   have hbk1:=HB.out (k+1)
   have hL:Hid ((C (k+1)).length=(C k).length+n'):=by unfold Hid;rw[hS.out,List.length_append,htl]
   rw[hL.out] at hbk1
   generalize (C k).length=t at hbk hbk1 hL ⊢
   clear hS htl ht
   have hneg:¬((t:Int)+(n':Int)<0):=by omega
   go_wp2
   go_round
   case rel=>exact ⟨k+1,by omega,by go_num,by rw[hL.out];go_num⟩
   case measure=>simp[intOf];omega
  ·have e:k=n:=by omega
   subst e
   have HG:=Lib.hid (igrow_c (C k).length w hbk)
   rw[HE.out] at hbk HG ⊢
   generalize hFl:F.length=fl at hbk HG ⊢
   have HFl:=Lib.hid hFl
   clear hFl
   go_wp2_with fail
   refine HG.out.mono ?_
   rintro _ w1 ⟨v1,rfl,hown1,hb1⟩
   have HO1:=Lib.hid hown1
   have hz1':=hb1.size
   clear hown1 HG
   go_wp2_with fail
   go_loopw [6,8,27] (fun ov _ iv wr=>∃(j:Nat),j≤k∧iv = .int .i64 j∧wr.ownsRow w.heap.size 3 1 ov (C j).length ((C j).map (Value.int .i64))∧Below w.heap.size w wr) (fun _ _ iv _=>k - (intOf iv).toNat)
   case atStart=>exact ⟨0,by omega,rfl,by rw[H0.out];exact HO1.out,hb1⟩
   case round =>
    obtain ⟨j,hj,rfl,hown,hbr⟩:=hrel
    have hszr:=hbr.size
    have hbj:=HB.out j
    by_cases hlt2:j<k
    ·have hji:(j:Int)<(k:Int):=by omega
     obtain ⟨b,off,a',n',c',rfl,hbb,hc,ht,_⟩:=(H.out.mono hbr).2 j hlt2
     have hS:=Lib.hid (HS.out j hlt2)
     have hbj1:=HB.out (j+1)
     have htl:=Lib.hid ht.1.1
     have hL:Hid ((C (j+1)).length=(C j).length+n'):=by unfold Hid;rw[hS.out,List.length_append,htl.out]
     have hND:Hid ((C (j+1)).map (Value.int .i64)=(C j).map (Value.int .i64)++(Ts[j]?.getD []).map (Value.int .i64)):=by unfold Hid;rw[hS.out,List.map_append]
     have HSRC:=Lib.hid ht.src
     have HNL:Hid (((Ts[j]?.getD []).map (Value.int .i64)).length=n'):=by unfold Hid;rw[List.length_map,htl.out]
     have hone:∀u∈(Ts[j]?.getD []).map (Value.int .i64),u.oneCell'=true:=fun u hu=>by
      obtain ⟨x,_,rfl⟩:=List.mem_map.1 hu
      rfl
     rw[hL.out] at hbj1
     generalize (Ts[j]?.getD []).map (Value.int .i64)=nws at hND HSRC HNL hone
     generalize (C j).map (Value.int .i64)=olds at hown hND
     generalize (C j).length=t at hbj hbj1 hL hown
     obtain ⟨ao,co,rfl⟩:=owns_shape hown
     clear ht
     go_wp2_with (first|(at_builtin;refine wpList_append_any _ rfl _ _ 22 rfl w.heap.size 3 i0 (.int .i64 0) 8 Tryz.underlying22 hi hz0 hz1 hz2 rfl _ _ _ rfl hown hszr _ _ _ nws rfl HNL.out HSRC.out hone (by unfold maxLen;omega) (by omega) ?_;intro v5 w5 hown5 hst5 _;have hb5:Below w.heap.size w w5:=hbr.trans (hst5.below hszr (fun k e=>(hown.lt k e).1));rw[← hND.out,← hL.out] at hown5;have HO:=Lib.hid hown5;clear hown5 hown))
     go_roundw
     case rel=>exact ⟨j+1,by omega,by go_num,HO.out,hb5⟩
     case measure=>simp[intOf];omega
    ·have hji:¬(j:Int)<(k:Int):=by omega
     have e:j=k:=by omega
     subst e
     rw[HE.out] at hown
     have HO:=Lib.hid hown
     clear hown
     go_wp2_with fail
     go_ret
     exact ⟨_,rfl,by rw[← HFl.out];exact HO.out,hbr⟩
end
section
open Go Go.RowKit
attribute [local go_sem] over_cell
attribute [local go_sem] Oper.semAt_some
def exB (R C:Int) (cs:List Int):Bool:=decide (1≤C)&&decide (C≤16)&&decide (0≤R)&&decide (R≤C)&&decide ((cs.length:Int)=R*C)
def exE (R C:Int) (cs:List Int):Int:=if exB R C cs=true then firstL [symE 0 C.toNat cs,whenV (R==C) 7] else 2
def exL (R C:Int) (cs:List Int):List Int:=if exE R C cs=0 then cs++(rpO (leftR C.toNat R.toNat cs)).getD [] else []
def colL (C:Nat) (cs:List Int) (j i:Nat):List Int:=(List.range i).map fun i=>cs[i*C+j]?.getD 0
theorem colL_succ (C:Nat) (cs:List Int) (j i:Nat):colL C cs j (i+1)=colL C cs j i++[cs[i*C+j]?.getD 0]:=by unfold colL;rw[List.range_succ,List.map_append];rfl
def leftI (m k:Nat):List Int:=((List.range k).filter fun x=>!m.testBit x).map fun (x:Nat)=>(x:Int)
theorem leftI_succ (m k:Nat):leftI m (k+1)=if m.testBit k=true then leftI m k else leftI m k++[(k:Int)]:=by
 unfold leftI
 rw[List.range_succ,List.filter_append,List.map_append]
 cases h:m.testBit k with
 | true=>rw[if_pos rfl];simp[h]
 | false=>rw[if_neg (by decide)];simp[h]
theorem leftI_len (m k:Nat):(leftI m k).length≤k:=by
 unfold leftI
 rw[List.length_map]
 exact Nat.le_trans (List.length_filter_le _ _) (by simp)
theorem leftR_at {C R:Nat} {cs:List Int} {j:Nat} (hj:j<C) (h0:∀k:Nat,0≤cs[k]?.getD 0):(leftR C R cs)[j]?.getD []=leftI (bitsOf (colL C cs j R)) C:=by
 unfold leftR
 rw[List.getElem?_map,List.getElem?_range hj,Option.map_some,Option.getD_some]
 unfold leftI
 congr 1
 apply List.filter_congr
 intro x _
 have h1:=bitsOf_bit (l:=colL C cs j R) (fun y hy=>by
  unfold colL at hy
  obtain ⟨i,_,rfl⟩:=List.mem_map.1 hy
  exact h0 _) (x:=x)
 have h2:(x:Int)∈colL C cs j R↔x∈colN C R cs j:=by
  unfold colL colN symN
  rw[List.mem_map,List.mem_map]
  constructor
  ·rintro ⟨i,hi,e⟩
   exact ⟨i,hi,by rw[e];rfl⟩
  ·rintro ⟨i,hi,e⟩
   exact ⟨i,hi,by rw[← e];have:=h0 (i*C+j);omega⟩
 rw[h2] at h1
 cases hb:(bitsOf (colL C cs j R)).testBit x with
 | true =>
  have hin:=h1.1 hb
  simp[hin]
 | false =>
  have hn:¬x∈colN C R cs j:=fun h=>by rw[h1.2 h] at hb;cases hb
  simp[hn]
theorem leftR_B {C R:Nat} {cs:List Int} (hC:C≤16):SetsB (leftR C R cs):=by
 refine ⟨by rw[leftR_len];omega,fun s hs=>?_⟩
 unfold leftR at hs
 obtain ⟨j,_,rfl⟩:=List.mem_map.1 hs
 refine ⟨?_,fun x hx=>?_⟩
 ·rw[List.length_map]
  have:=List.length_filter_le (fun x=>decide (x ∉ colN C R cs j)) (List.range C)
  rw[List.length_range] at this
  omega
 ·obtain ⟨y,hy,rfl⟩:=List.mem_map.1 hx
  have:=List.mem_range.1 (List.mem_filter.1 hy).1
  omega
theorem rc_two {w:World} {a1 a2:Option Addr} {n1 c1 n2 c2:Nat} {xs ys:List Int} (h1:IC w a1 n1 xs) (k1:n1≤c1) (h2:IC w a2 n2 ys) (k2:n2≤c2):RC (w.alloc (.cells #[.slice a1 n1 c1,.slice a2 n2 c2] 22)) (some ⟨w.heap.size,0,none⟩) 2 [xs,ys]:=by
 have hb:Below w.heap.size w (w.alloc (.cells #[.slice a1 n1 c1,.slice a2 n2 c2] 22)):=(Below.refl _ _).alloc (Nat.le_refl _) _
 have hq:=World.alloc_heap_new w (.cells #[.slice a1 n1 c1,.slice a2 n2 c2] 22)
 refine ⟨⟨rfl,by omega⟩,fun k hk=>?_⟩
 match k,hk with
 | 0,_=>exact ⟨w.heap.size,0,a1,n1,c1,rfl,q_lt hq,q_cell hq 0,h1.mono hb,k1⟩
 | 1,_=>exact ⟨w.heap.size,0,a2,n2,c2,rfl,q_lt hq,q_cell hq 1,h2.mono hb,k2⟩
theorem extend_bad (R C:Int) (a:Option Addr) (n c:Nat) (cs:List Int) (w:World) (h:IC w a n cs) (hb:exB R C cs=false):Calls Tryz.prog 40 #[.agg #[.int .i64 R,.int .i64 C,.slice a n c]] w (GridE w 0 0 [] 2):=by
 have hl:=h.len
 have hsm:=h.small
 clear h
 unfold exB at hb
 by_cases hI:(decide (1≤C)&&decide (C≤16))=true
 ·have HI:=Lib.hid hI
  rw[hI,Bool.true_and] at hb
  simp only[Bool.and_eq_true,decide_eq_true_eq] at hI
  by_cases h1:R<0
  ·have hd1:decide (R<0)=true:=decide_eq_true h1
   clear hb
   go_enter Tryz.func40,Tryz.ntmps40
   go_upto_region 1 with fail
   have fsz:((w.alloc (.cells #[.int .i64 R,.int .i64 C,.slice a n c] 24)).alloc (.cells #[.int .i64 0,.int .i64 0,.slice none 0 0] 24)).heap.size=w.heap.size+2:=by simp only[World.size_alloc] <;> omega
   have fB:Below w.heap.size w ((w.alloc (.cells #[.int .i64 R,.int .i64 C,.slice a n c] 24)).alloc (.cells #[.int .i64 0,.int .i64 0,.slice none 0 0] 24)):=((Below.refl _ _).alloc (Nat.le_refl _) _).alloc (by simp only[World.size_alloc];omega) _
   have fq0:((w.alloc (.cells #[.int .i64 R,.int .i64 C,.slice a n c] 24)).alloc (.cells #[.int .i64 0,.int .i64 0,.slice none 0 0] 24)).heap[w.heap.size]?=some (.cells #[.int .i64 R,.int .i64 C,.slice a n c] 24 (0,0)):=by have h:=World.alloc_heap_new w (.cells #[.int .i64 R,.int .i64 C,.slice a n c] 24);exact (Below.heap_alloc _ _ _ (by simp only[World.size_alloc];omega)).trans (h)
   have fq1:((w.alloc (.cells #[.int .i64 R,.int .i64 C,.slice a n c] 24)).alloc (.cells #[.int .i64 0,.int .i64 0,.slice none 0 0] 24)).heap[w.heap.size+1]?=some (.cells #[.int .i64 0,.int .i64 0,.slice none 0 0] 24 (0,0)):=by have h:=World.alloc_heap_new (w.alloc (.cells #[.int .i64 R,.int .i64 C,.slice a n c] 24)) (.cells #[.int .i64 0,.int .i64 0,.slice none 0 0] 24);simp only[World.size_alloc] at h;exact h
   generalize ((w.alloc (.cells #[.int .i64 R,.int .i64 C,.slice a n c] 24)).alloc (.cells #[.int .i64 0,.int .i64 0,.slice none 0 0] 24))=W0 at fsz fB fq0 fq1 ⊢
   obtain ⟨x0,x1,x2,xl⟩:=c3_of fq0
   obtain ⟨y0,y1,y2,yl⟩:=c3_of fq1
   obtain ⟨yf0,yf1,yf2⟩:=f3_of fq1
   go_wp2_with (first|(go_at_call 113;refine (isOrder_c _ _).mono ?_;rw[HI.out];rintro _ w1 ⟨rfl,rfl⟩)|fail)
   have g3:=st3_q (x0 := .int .i64 0) (x1 := .int .i64 0) (x2 := .slice none 0 0) fq1
   have hb3:=st3_below (x0 := .int .i64 0) (x1 := .int .i64 0) (x2 := .slice none 0 0) (b:=w.heap.size+1) fB (by omega)
   obtain ⟨z0,z1,z2,zl⟩:=c3_of g3
   refine bodyPost_ret (v := .tuple #[.agg #[.int .i64 0,.int .i64 0,.slice none 0 0],.int .i64 (2)]) ?_ rfl ⟨none,0,rfl,World.ownsRow_nil _ _ _ _,(by first|exact hb3|exact hb3.drew)⟩
   simp[results,Tryz.f40,go_sem,z0,z1,z2]
  ·have hd1:decide (R<0)=false:=decide_eq_false h1
   by_cases h2:C<R
   ·have hd2:decide (C<R)=true:=decide_eq_true h2
    clear hb
    go_enter Tryz.func40,Tryz.ntmps40
    go_upto_region 1 with fail
    have fsz:((w.alloc (.cells #[.int .i64 R,.int .i64 C,.slice a n c] 24)).alloc (.cells #[.int .i64 0,.int .i64 0,.slice none 0 0] 24)).heap.size=w.heap.size+2:=by simp only[World.size_alloc] <;> omega
    have fB:Below w.heap.size w ((w.alloc (.cells #[.int .i64 R,.int .i64 C,.slice a n c] 24)).alloc (.cells #[.int .i64 0,.int .i64 0,.slice none 0 0] 24)):=((Below.refl _ _).alloc (Nat.le_refl _) _).alloc (by simp only[World.size_alloc];omega) _
    have fq0:((w.alloc (.cells #[.int .i64 R,.int .i64 C,.slice a n c] 24)).alloc (.cells #[.int .i64 0,.int .i64 0,.slice none 0 0] 24)).heap[w.heap.size]?=some (.cells #[.int .i64 R,.int .i64 C,.slice a n c] 24 (0,0)):=by have h:=World.alloc_heap_new w (.cells #[.int .i64 R,.int .i64 C,.slice a n c] 24);exact (Below.heap_alloc _ _ _ (by simp only[World.size_alloc];omega)).trans (h)
    have fq1:((w.alloc (.cells #[.int .i64 R,.int .i64 C,.slice a n c] 24)).alloc (.cells #[.int .i64 0,.int .i64 0,.slice none 0 0] 24)).heap[w.heap.size+1]?=some (.cells #[.int .i64 0,.int .i64 0,.slice none 0 0] 24 (0,0)):=by have h:=World.alloc_heap_new (w.alloc (.cells #[.int .i64 R,.int .i64 C,.slice a n c] 24)) (.cells #[.int .i64 0,.int .i64 0,.slice none 0 0] 24);simp only[World.size_alloc] at h;exact h
    generalize ((w.alloc (.cells #[.int .i64 R,.int .i64 C,.slice a n c] 24)).alloc (.cells #[.int .i64 0,.int .i64 0,.slice none 0 0] 24))=W0 at fsz fB fq0 fq1 ⊢
    obtain ⟨x0,x1,x2,xl⟩:=c3_of fq0
    obtain ⟨y0,y1,y2,yl⟩:=c3_of fq1
    obtain ⟨yf0,yf1,yf2⟩:=f3_of fq1
    go_wp2_with (first|(go_at_call 113;refine (isOrder_c _ _).mono ?_;rw[HI.out];rintro _ w1 ⟨rfl,rfl⟩)|fail)
    have g3:=st3_q (x0 := .int .i64 0) (x1 := .int .i64 0) (x2 := .slice none 0 0) fq1
    have hb3:=st3_below (x0 := .int .i64 0) (x1 := .int .i64 0) (x2 := .slice none 0 0) (b:=w.heap.size+1) fB (by omega)
    obtain ⟨z0,z1,z2,zl⟩:=c3_of g3
    refine bodyPost_ret (v := .tuple #[.agg #[.int .i64 0,.int .i64 0,.slice none 0 0],.int .i64 (2)]) ?_ rfl ⟨none,0,rfl,World.ownsRow_nil _ _ _ _,(by first|exact hb3|exact hb3.drew)⟩
    simp[results,Tryz.f40,go_sem,z0,z1,z2]
   ·have hd2:decide (C<R)=false:=decide_eq_false h2
    obtain ⟨R,rfl⟩:∃R':Nat,R=(R':Int):=⟨R.toNat,by omega⟩
    obtain ⟨C,rfl⟩:∃C':Nat,C=(C':Int):=⟨C.toNat,by omega⟩
    rw[decide_eq_true (show (0:Int)≤(R:Int) by omega),decide_eq_true (show (R:Int)≤(C:Int) by omega),Bool.true_and,Bool.true_and] at hb
    have hne:=of_decide_eq_false hb
    have hq:R*C≤16*16:=Nat.mul_le_mul (by omega) (by omega)
    obtain ⟨q,hqe⟩:∃q,q=R*C:=⟨_,rfl⟩
    have hmul:(R:Int)*(C:Int)=(q:Int):=by rw[hqe,Int.natCast_mul]
    rw[hl,hmul] at hne
    have hd3:((n:Int)==(q:Int))=false:=by simpa using hne
    have hd4:((n:Int) != (q:Int))=true:=by simpa using hne
    rw[← hqe] at hq
    clear hb hqe hne
    go_enter Tryz.func40,Tryz.ntmps40
    go_upto_region 1 with fail
    have fsz:((w.alloc (.cells #[.int .i64 (R:Int),.int .i64 (C:Int),.slice a n c] 24)).alloc (.cells #[.int .i64 0,.int .i64 0,.slice none 0 0] 24)).heap.size=w.heap.size+2:=by simp only[World.size_alloc] <;> omega
    have fB:Below w.heap.size w ((w.alloc (.cells #[.int .i64 (R:Int),.int .i64 (C:Int),.slice a n c] 24)).alloc (.cells #[.int .i64 0,.int .i64 0,.slice none 0 0] 24)):=((Below.refl _ _).alloc (Nat.le_refl _) _).alloc (by simp only[World.size_alloc];omega) _
    have fq0:((w.alloc (.cells #[.int .i64 (R:Int),.int .i64 (C:Int),.slice a n c] 24)).alloc (.cells #[.int .i64 0,.int .i64 0,.slice none 0 0] 24)).heap[w.heap.size]?=some (.cells #[.int .i64 (R:Int),.int .i64 (C:Int),.slice a n c] 24 (0,0)):=by have h:=World.alloc_heap_new w (.cells #[.int .i64 (R:Int),.int .i64 (C:Int),.slice a n c] 24);exact (Below.heap_alloc _ _ _ (by simp only[World.size_alloc];omega)).trans (h)
    have fq1:((w.alloc (.cells #[.int .i64 (R:Int),.int .i64 (C:Int),.slice a n c] 24)).alloc (.cells #[.int .i64 0,.int .i64 0,.slice none 0 0] 24)).heap[w.heap.size+1]?=some (.cells #[.int .i64 0,.int .i64 0,.slice none 0 0] 24 (0,0)):=by have h:=World.alloc_heap_new (w.alloc (.cells #[.int .i64 (R:Int),.int .i64 (C:Int),.slice a n c] 24)) (.cells #[.int .i64 0,.int .i64 0,.slice none 0 0] 24);simp only[World.size_alloc] at h;exact h
    generalize ((w.alloc (.cells #[.int .i64 (R:Int),.int .i64 (C:Int),.slice a n c] 24)).alloc (.cells #[.int .i64 0,.int .i64 0,.slice none 0 0] 24))=W0 at fsz fB fq0 fq1 ⊢
    obtain ⟨x0,x1,x2,xl⟩:=c3_of fq0
    obtain ⟨y0,y1,y2,yl⟩:=c3_of fq1
    obtain ⟨yf0,yf1,yf2⟩:=f3_of fq1
    go_wp2_with (first|(go_at_call 113;refine (isOrder_c _ _).mono ?_;rw[HI.out];rintro _ w1 ⟨rfl,rfl⟩)|fail)
    have g3:=st3_q (x0 := .int .i64 0) (x1 := .int .i64 0) (x2 := .slice none 0 0) fq1
    have hb3:=st3_below (x0 := .int .i64 0) (x1 := .int .i64 0) (x2 := .slice none 0 0) (b:=w.heap.size+1) fB (by omega)
    obtain ⟨z0,z1,z2,zl⟩:=c3_of g3
    refine bodyPost_ret (v := .tuple #[.agg #[.int .i64 0,.int .i64 0,.slice none 0 0],.int .i64 (2)]) ?_ rfl ⟨none,0,rfl,World.ownsRow_nil _ _ _ _,(by first|exact hb3|exact hb3.drew)⟩
    simp[results,Tryz.f40,go_sem,z0,z1,z2]
 ·have hI':(decide (1≤C)&&decide (C≤16))=false:=by simpa using hI
  have HI:=Lib.hid hI'
  clear hb hI hI'
  go_enter Tryz.func40,Tryz.ntmps40
  go_upto_region 1 with fail
  have fsz:((w.alloc (.cells #[.int .i64 R,.int .i64 C,.slice a n c] 24)).alloc (.cells #[.int .i64 0,.int .i64 0,.slice none 0 0] 24)).heap.size=w.heap.size+2:=by simp only[World.size_alloc] <;> omega
  have fB:Below w.heap.size w ((w.alloc (.cells #[.int .i64 R,.int .i64 C,.slice a n c] 24)).alloc (.cells #[.int .i64 0,.int .i64 0,.slice none 0 0] 24)):=((Below.refl _ _).alloc (Nat.le_refl _) _).alloc (by simp only[World.size_alloc];omega) _
  have fq0:((w.alloc (.cells #[.int .i64 R,.int .i64 C,.slice a n c] 24)).alloc (.cells #[.int .i64 0,.int .i64 0,.slice none 0 0] 24)).heap[w.heap.size]?=some (.cells #[.int .i64 R,.int .i64 C,.slice a n c] 24 (0,0)):=by have h:=World.alloc_heap_new w (.cells #[.int .i64 R,.int .i64 C,.slice a n c] 24);exact (Below.heap_alloc _ _ _ (by simp only[World.size_alloc];omega)).trans (h)
  have fq1:((w.alloc (.cells #[.int .i64 R,.int .i64 C,.slice a n c] 24)).alloc (.cells #[.int .i64 0,.int .i64 0,.slice none 0 0] 24)).heap[w.heap.size+1]?=some (.cells #[.int .i64 0,.int .i64 0,.slice none 0 0] 24 (0,0)):=by have h:=World.alloc_heap_new (w.alloc (.cells #[.int .i64 R,.int .i64 C,.slice a n c] 24)) (.cells #[.int .i64 0,.int .i64 0,.slice none 0 0] 24);simp only[World.size_alloc] at h;exact h
  generalize ((w.alloc (.cells #[.int .i64 R,.int .i64 C,.slice a n c] 24)).alloc (.cells #[.int .i64 0,.int .i64 0,.slice none 0 0] 24))=W0 at fsz fB fq0 fq1 ⊢
  obtain ⟨x0,x1,x2,xl⟩:=c3_of fq0
  obtain ⟨y0,y1,y2,yl⟩:=c3_of fq1
  obtain ⟨yf0,yf1,yf2⟩:=f3_of fq1
  go_wp2_with (first|(go_at_call 113;refine (isOrder_c _ _).mono ?_;rw[HI.out];rintro _ w1 ⟨rfl,rfl⟩)|fail)
  have g3:=st3_q (x0 := .int .i64 0) (x1 := .int .i64 0) (x2 := .slice none 0 0) fq1
  have hb3:=st3_below (x0 := .int .i64 0) (x1 := .int .i64 0) (x2 := .slice none 0 0) (b:=w.heap.size+1) fB (by omega)
  obtain ⟨z0,z1,z2,zl⟩:=c3_of g3
  refine bodyPost_ret (v := .tuple #[.agg #[.int .i64 0,.int .i64 0,.slice none 0 0],.int .i64 (2)]) ?_ rfl ⟨none,0,rfl,World.ownsRow_nil _ _ _ _,(by first|exact hb3|exact hb3.drew)⟩
  simp[results,Tryz.f40,go_sem,z0,z1,z2]
end
end Go.Proofs.YtmfpdakaeagdpaaGreat
