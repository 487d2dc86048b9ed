/- Texts J153 to J153 of this proof, in one file. -/
import Derived.Test.YtmfpdakaeagdpaaGreatW01
import Derived.Test.YtmfpdakaeagdpaaGreatW02
import Derived.Test.YtmfpdakaeagdpaaGreatW03
import Derived.Test.YtmfpdakaeagdpaaGreatW04
import Derived.Test.YtmfpdakaeagdpaaGreatW05
import Derived.Test.YtmfpdakaeagdpaaGreatW06
import Derived.Test.YtmfpdakaeagdpaaGreatW07
import Derived.Test.YtmfpdakaeagdpaaGreatW08
import Derived.Test.YtmfpdakaeagdpaaGreatW09
import Derived.Test.YtmfpdakaeagdpaaGreatW10
import Derived.Test.YtmfpdakaeagdpaaGreatW11
import Derived.Test.YtmfpdakaeagdpaaGreatW12
import Derived.Test.YtmfpdakaeagdpaaGreatW13
import Derived.Test.YtmfpdakaeagdpaaGreatW14
import Derived.Test.YtmfpdakaeagdpaaGreatW15
import Derived.Test.YtmfpdakaeagdpaaGreatW16
import Derived.Test.YtmfpdakaeagdpaaGreatW17
import Derived.Test.YtmfpdakaeagdpaaGreatW18
import Derived.Test.YtmfpdakaeagdpaaGreatW19
import Derived.Test.YtmfpdakaeagdpaaGreatW20
import Derived.Test.YtmfpdakaeagdpaaGreatW21
import Derived.Test.YtmfpdakaeagdpaaGreatW22
import Derived.Test.YtmfpdakaeagdpaaGreatW23
import Derived.Test.YtmfpdakaeagdpaaGreatW24
import Derived.Test.YtmfpdakaeagdpaaGreatW25
import Derived.Test.YtmfpdakaeagdpaaGreatW26
import Derived.Test.YtmfpdakaeagdpaaGreatW27
import Derived.Test.YtmfpdakaeagdpaaGreatX29n01
import Derived.Test.YtmfpdakaeagdpaaGreatX29n02
import Derived.Test.YtmfpdakaeagdpaaGreatX29n03
import Derived.Below
import Derived.BigFrame
import Derived.BigQuiet
import Derived.Deep.CutBlock
import Derived.Deep.CutRange
import Derived.Deep.LoopGhost
import Derived.Deep.Quiet
import Derived.Deep.RegionHeld3
import Derived.DeepKeys4
import Derived.KernelRfl
import Derived.Laws.BitsAllLaws
import Derived.Laws.EntriesVeiled
import Derived.Lib.Hide
import Derived.Lib.SliceRun
import Derived.LoopIn
import Derived.LoopNIn
import Derived.Maps.AppendAt
import Derived.Maps.OwnIn
import Derived.Maps.OwnSet
import Derived.OneCell
import Derived.OrdersHeld
import Derived.OrdersIn
import Derived.OwnWalkIn
import Derived.RangeFuncBound
import Derived.RangeFuncBox
import Derived.RangeFuncCalls
import Derived.RangeFuncLeaves
import Derived.RangeFuncNested
import Derived.RangeFuncWrites
import Derived.Shelf.Abstract
import Derived.Still
import Derived.TacticsIn
import Derived.TacticsInMore
import Derived.Test.YtmfpdakaeagdpaaGreatProg
import Derived.WalkKit
import Derived.WalkLawsBesides
import Derived.WalkSpells
import Derived.WideKeyPair
namespace Go.Proofs.YtmfpdakaeagdpaaGreat
set_option maxRecDepth 100000
set_option maxHeartbeats 16000000
section
open Go Go.RowKit
attribute [local go_sem] over_cell
attribute [local go_sem] Oper.semAt_some
theorem lorder_c (n:Int) (w:World):Calls Tryz.prog 59 #[.int .i64 n] w fun e w'=>e = .returned (.int .i64 (ordE n))∧Below w.heap.size w w':=by
 by_cases h1:n<1
 ·have e:ordE n=3:=by unfold ordE whenV;rw[decide_eq_false (show ¬1≤n by omega)];rfl
  rw[e]
  go_enter Tryz.func59,Tryz.ntmps59
  go_wp2_with fail
  go_ret
  exact ⟨rfl,Below.refl _ _⟩
 ·by_cases h2:16<n
  ·have e:ordE n=3:=by unfold ordE whenV;rw[decide_eq_false (show ¬n≤16 by omega),Bool.and_false];rfl
   have d1:decide (n<1)=false:=decide_eq_false h1
   have d2:decide (16<n)=true:=decide_eq_true h2
   rw[e]
   clear h1 h2
   go_enter Tryz.func59,Tryz.ntmps59
   go_wp2_with fail
   go_ret
   exact ⟨rfl,Below.refl _ _⟩
  ·have e:ordE n=0:=by unfold ordE whenV;rw[decide_eq_true (show 1≤n by omega),decide_eq_true (show n≤16 by omega)];rfl
   have d1:decide (n<1)=false:=decide_eq_false h1
   have d2:decide (16<n)=false:=decide_eq_false h2
   rw[e]
   clear h1 h2
   go_enter Tryz.func59,Tryz.ntmps59
   go_wp2_with fail
   go_ret
   exact ⟨rfl,Below.refl _ _⟩
theorem allred_bad (n:Int) (er:Int) (he:firstL [ordE n,whenV (decide (5<n)) 20]=er) (h0:er≠0) (w:World):Calls Tryz.prog 75 #[.int .i64 n] w fun e w'=>e = .returned (.tuple #[.slice none 0 0,.int .i64 er])∧Below w.heap.size w w':=by
 have h0':(er != 0)=true:=by simpa using h0
 obtain ⟨o,ho⟩:∃o,o=ordE n:=⟨_,rfl⟩
 have HO:Hid (ordE n=o):=ho.symm
 have HF:Hid (firstL [o,whenV (decide (5<n)) 20]=er):=by rw[ho];exact he
 clear he h0 ho
 go_enter Tryz.func75,Tryz.ntmps75
 go_wp2_with (first|(go_at_call 125;refine (corder_c _ _).mono ?_;rw[HO.out];rintro _ w1 ⟨rfl,rfl⟩)|(go_at_call 93;refine (twhen_c _ _ _).mono ?_;rintro _ w3 ⟨rfl,rfl⟩)|(go_at_call 92;refine (tfirst_c _ _ _ _ _ (IC.new2 _ _ _ _)).mono ?_;rw[HF.out];rintro _ w4 ⟨rfl,rfl⟩)|fail)
 go_ret2
 exact ⟨rfl,keep_alloc (Below.refl _ _) _⟩
structure FrI (w:World) (b9 g m:Nat) (n:Int) (xs:List Int) (W:World):Prop where
 q9:W.heap[b9]?=some (.cells #[.int .i64 n,.int .i64 n,.slice (some ⟨g,0,none⟩) m m] 24 (0,0))
 o:OI W w.heap.size g m m xs
 bl:Below w.heap.size w W
 ne:w.heap.size≤g∧g<b9
theorem FrI.set {w:World} {b9 g m:Nat} {n:Int} {xs:List Int} {W:World} (h:FrI w b9 g m n xs W) (k:Nat) (x:Int):FrI w b9 g m n (xs.set k x) (W.setCell ⟨g,k,none⟩ (.int .i64 x)) where
 q9:=q_other h.q9 (by have:=h.ne;omega) _
 o:=h.o.set k x
 bl:=h.bl.setCell (p:=⟨g,k,none⟩) (by have:=h.ne;show w.heap.size≤g;omega) _
 ne:=h.ne
theorem FrI.keep {w:World} {b9 g m:Nat} {n:Int} {xs:List Int} {W W':World} (h:FrI w b9 g m n xs W) (hb:Below W.heap.size W W'):FrI w b9 g m n xs W' where
 q9:=keepq hb h.q9
 o:=h.o.keep hb
 bl:=keep_trans h.bl hb
 ne:=h.ne
theorem FrI.drew {w:World} {b9 g m:Nat} {n:Int} {xs:List Int} {W:World} (h:FrI w b9 g m n xs W):FrI w b9 g m n xs W.drew:=h.keep (Below.refl _ _).drew
theorem red_cnt (N:Nat) (h1:1≤N) (h5:N≤5):(redC N).length≤256:=by
 match N,h1,h5 with
 | 1,_,_=>decide +kernel
 | 2,_,_=>decide +kernel
 | 3,_,_=>decide +kernel
 | 4,_,_=>decide +kernel
 | 5,_,_=>decide +kernel
theorem rReduced_c (N nn:Nat) (hnn:nn=N*N) (h1:1≤N) (h5:N≤5) (w:World):Calls Tryz.prog 76 #[.int .i64 (N:Int)] w fun e w'=>∃a c,e = .returned (.slice a (redC N).length c)∧GL w' a (redC N).length N (redC N)∧Below w.heap.size w w':=by
 have HP:=Lib.hid (frm_part N h1 h5)
 have HB:=Lib.hid (red_cnt N h1 h5)
 have hn2:nn≤25:=by rw[hnn];exact Nat.mul_le_mul h5 h5
 have hn1:1≤nn:=by rw[hnn];exact Nat.mul_pos h1 h1
 have hmem:Hid (∀x,x∈redC N→x.length≤17592186044416):=by
  intro x hx
  have hfl:(frmL N).length=N*N:=HP.out.len
  have:=(comp_sound (f:=N*N) (k:=0) (by rw[hfl];omega) (fun i hi=>absurd hi (by omega)) (fun y hy=>by
   obtain ⟨i,hi,e⟩:=List.getElem_of_mem hy
   have:=HP.out.lt i
   rw[List.getElem?_eq_getElem hi,Option.getD_some,e] at this
   exact this) (once_iff.1 HP.out.once) hx).1.1
  omega
 have HSQ:=Lib.hid (fun W=>rsq_c N nn hnn (by omega) W)
 have HRC:Hid (∀W a c,IC W a nn (frmL N)→Calls Tryz.prog 28 #[.agg #[.int .i64 (N:Int),.int .i64 (N:Int),.slice a nn c],.int .i64 256] W fun e w'=>∃v pre,e = .returned v∧GridsI N w' noB W.heap.size v pre∧pre.map Prod.snd=redC N∧Below W.heap.size W w'):=fun W a c hi=>by
  have h9:=rComplete_c N nn 256 a c (frmL N) W hi h1 (by omega) hn1 (by omega) (by omega) (by omega)
  rw[refC_coL HP.out (by omega),show compP N okT (N*N) 0 (frmL N)=redC N from rfl,List.take_of_length_le HB.out] at h9
  exact h9
 have HFZ:Hid (fillTo N frmS nn 0=List.replicate nn 0):=fillTo_zero N frmS nn
 have HFE:Hid (fillTo N frmS nn nn=frmL N):=by unfold Hid;rw[fillTo_end,hnn];rfl
 have HFN:Hid (∀k,k<nn→((fillTo N frmS nn k).set k (-1)).set k (frmS (k / N) (k % N))=fillTo N frmS nn (k+1)):=fun k hk=>by rw[List.set_set];exact fillTo_next hk
 have HF1:Hid (∀k,k<N→frmS (k / N) (k % N)=(k:Int)):=fun k hk=>by
  rw[Nat.div_eq_of_lt hk,Nat.mod_eq_of_lt hk]
  unfold frmS
  rw[if_neg (by omega)];simp
 have HF2:Hid (∀k,¬k<N→k % N=0→frmS (k / N) (k % N)=((k / N:Nat):Int)):=fun k hk hm=>by
  unfold frmS
  rw[hm,if_neg (by omega)];simp
 have HF3:Hid (∀k,¬k<N→k % N≠0→frmS (k / N) (k % N) = -1):=fun k hk hm=>by
  have hd:0<k / N:=Nat.div_pos (by omega) (by omega)
  unfold frmS
  rw[if_pos ⟨hd,by omega⟩]
 have HFL:Hid (∀k,((fillTo N frmS nn k).set k (-1)).length=(fillTo N frmS nn k).length):=fun k=>List.length_set
 have hne:(N:Int)≠0:=by omega
 have hNN:(N:Int)*(N:Int)=(nn:Int):=by rw[hnn];exact (Int.natCast_mul _ _).symm
 clear hnn HP
 generalize redC N=rl at HB hmem HRC ⊢
 generalize frmL N=fl at HRC HFE
 generalize fillTo N frmS nn=ft at HFZ HFE HFN HFL
 go_enter Tryz.func76,Tryz.ntmps76
 go_upto_region 2 with (first|(go_at_call 101;refine (HSQ.out _).mono ?_;rintro _ w2 ⟨g,rfl,ho2,hb2⟩)|fail)
 have hg:=ho2.blk
 have ksz:(w2.alloc (.cells #[.int .i64 (N:Int),.int .i64 (N:Int),.slice (some ⟨g,0,none⟩) nn nn] 24)).heap.size=w2.heap.size+1:=by simp only[World.size_alloc]
 have kB:Below w2.heap.size w2 (w2.alloc (.cells #[.int .i64 (N:Int),.int .i64 (N:Int),.slice (some ⟨g,0,none⟩) nn nn] 24)):=(Below.refl _ _).alloc (Nat.le_refl _) _
 have kq0:(w2.alloc (.cells #[.int .i64 (N:Int),.int .i64 (N:Int),.slice (some ⟨g,0,none⟩) nn nn] 24)).heap[w2.heap.size]?=some (.cells #[.int .i64 (N:Int),.int .i64 (N:Int),.slice (some ⟨g,0,none⟩) nn nn] 24 (0,0)):=by have h:=World.alloc_heap_new w2 (.cells #[.int .i64 (N:Int),.int .i64 (N:Int),.slice (some ⟨g,0,none⟩) nn nn] 24);exact h
 generalize (w2.alloc (.cells #[.int .i64 (N:Int),.int .i64 (N:Int),.slice (some ⟨g,0,none⟩) nn nn] 24))=W3 at ksz kB kq0 ⊢
 have hb3:Below w.heap.size w W3:=keep_trans (by (repeat (first|assumption|exact Below.refl _ _|refine keep_drew ?_|refine keep_alloc ?_ _|refine keep_trans ?_ (by assumption)))) kB
 have HR:Hid (FrI w w2.heap.size g nn (N:Int) (ft 0) W3):=⟨kq0,by rw[HFZ.out];exact (ho2.keep kB).base (by simp <;> omega),hb3,by have h7:=hg.1;(try simp at h7);omega⟩
 clear ksz kq0 kB hb2 ho2 hg hb3
 generalize w2.heap.size=b9 at HR ⊢
 go_wp2_with fail
 go_loopw [4] (fun s4 wr=>∃k:Nat,k≤nn∧s4 = .int .i64 (k:Int)∧Hid (FrI w b9 g nn (N:Int) (ft k) wr)) (fun s4 _=>nn - (intOf s4).toNat)
 case atStart=>exact ⟨0,by omega,rfl,HR⟩
 case round =>
  obtain ⟨k,hk,rfl,hR⟩:=hrel
  obtain ⟨x0,x1,x2,xl⟩:=c3_of hR.out.q9
  by_cases hlt:k<nn
  ·have hki:(k:Int)<(nn:Int):=by omega
   obtain ⟨u0,u1,u2⟩:=hR.out.o.at hlt
   have HR1:=Lib.hid (hR.out.set k (-1))
   have HN:=Lib.hid (HFN.out k hlt)
   go_upto_region 6 with fail
   generalize (wr.setCell ⟨g,k,none⟩ (.int .i64 (-1)))=W1 at HR1 ⊢
   clear x0 x1 x2 xl u0 u1 u2
   obtain ⟨x0,x1,x2,xl⟩:=c3_of HR1.out.q9
   obtain ⟨u0,u1,u2⟩:=HR1.out.o.at hlt
   generalize ((ft k).set k (-1))[k]?.getD 0=ov at u0
   by_cases hkN:k<N
   ·have hkNi:(k:Int)<(N:Int):=by omega
    have hR2:=Lib.hid (HR1.out.set k (k:Int))
    rw[HF1.out k hkN] at HN
    rw[HN.out] at hR2
    go_wp2_with fail
    go_roundw
    case rel=>exact ⟨k+1,by omega,by go_num,hR2⟩
    case measure=>simp[intOf];omega
   ·have hkNi:¬(k:Int)<(N:Int):=by omega
    have m1:(k:Int) % (N:Int)=((k % N:Nat):Int):=(Int.natCast_emod _ _).symm
    have m2:(k:Int) / (N:Int)=((k / N:Nat):Int):=(Int.natCast_ediv _ _).symm
    have hd:=Nat.div_le_self k N
    by_cases hm:k % N=0
    ·have hR2:=Lib.hid (HR1.out.set k ((k / N:Nat):Int))
     rw[HF2.out k hkN hm] at HN
     rw[HN.out] at hR2
     rw[hm] at m1
     clear hm HN
     generalize k / N=d at m2 hR2 hd
     go_wp2_with fail
     refine wp_region_S (fun w'=>∃u,w'=over (W1) u) [7] [(0,0),(0,1),(0,2),(0,3),(0,4),(0,5),(0,6),(2,7)] (by kernel_rfl) (by kernel_rfl) (by exact ⟨_,below_over (by repeat (first|assumption|exact Below.refl _ _|refine keep_drew ?_|refine keep_alloc ?_ _|refine keep_trans ?_ (by assumption)))⟩) ?_
     dsimp only[pickOps,nthOp]
     repeat (first|(refine wpS_skip rfl (fun K hK=>?_);go_big_quiet_op;refine hK _ ?_;clear hK K)|(refine wpS_quiet rfl rfl (fun K hK=>?_);go_big_quiet_op;refine hK _ ?_;clear hK K))
     refine wpS_late _ _ _ rfl ?_
     dsimp only[List.map]
     go_wp2
     refine NoPanic.normal ?_
     go_wp2_with fail
     go_roundw
     case rel=>exact ⟨k+1,by omega,by go_num,hR2.out.drew⟩
     case measure=>simp[intOf];omega
    ·rw[HF3.out k hkN hm] at HN
     have hR2:Hid (FrI w b9 g nn (N:Int) (ft (k+1)) W1):=by
      have h9:=HR1.out
      rw[← HN.out,List.set_set];exact h9
     generalize k % N=d at m1 hm
     have hmi:((d:Int)==0)=false:=by simpa using (show ¬(d:Int)=0 by omega)
     clear hm HN
     go_wp2_with fail
     go_roundw
     case rel=>exact ⟨k+1,by omega,by go_num,hR2⟩
     case measure=>simp[intOf];omega
  ·have e:k=nn:=by omega
   have hno:¬(k:Int)<(nn:Int):=by omega
   have hR9:=hR.out
   rw[e,HFE.out] at hR9
   have HC:=Lib.hid (HRC.out wr (some ⟨g,0,none⟩) nn (hR9.o.ic (by omega)))
   have HBL:=Lib.hid hR9.bl
   clear e hR9 hR
   go_wp2_with (first|(go_at_call 28;(with_reducible refine HC.out.mono ?_);rintro _ w9 ⟨v9,pre,rfl,hgi,hpre,hb9⟩)|fail)
   have hpl:pre.length=rl.length:=by rw[← hpre,List.length_map]
   obtain ⟨a8,c8,he,hgl⟩:=hgi.gl (by rw[hpl];have:=HB.out;omega) (fun x hx=>hmem.out x.2 (by rw[← hpre];exact List.mem_map.2 ⟨x,hx,rfl⟩))
   rw[hpl,hpre] at hgl
   rw[hpl] at he
   refine bodyPost_ret (v:=v9) ?_ rfl ⟨a8,c8,by rw[he],hgl,keep_trans HBL.out hb9⟩
   simp[results,Tryz.f76,go_sem]
end
end Go.Proofs.YtmfpdakaeagdpaaGreat
