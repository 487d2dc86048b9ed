/- Texts J171 to J171 of this proof, in one file. -/
import Derived.Test.YtmfpdakaeagdpaaGreatW01
import Derived.Test.YtmfpdakaeagdpaaGreatW02
import Derived.Test.YtmfpdakaeagdpaaGreatW03
import Derived.Test.YtmfpdakaeagdpaaGreatW04
import Derived.Test.YtmfpdakaeagdpaaGreatW05
import Derived.Test.YtmfpdakaeagdpaaGreatW06
import Derived.Test.YtmfpdakaeagdpaaGreatW07
import Derived.Test.YtmfpdakaeagdpaaGreatW08
import Derived.Test.YtmfpdakaeagdpaaGreatW09
import Derived.Test.YtmfpdakaeagdpaaGreatW10
import Derived.Test.YtmfpdakaeagdpaaGreatW11
import Derived.Test.YtmfpdakaeagdpaaGreatW12
import Derived.Test.YtmfpdakaeagdpaaGreatW13
import Derived.Test.YtmfpdakaeagdpaaGreatW14
import Derived.Test.YtmfpdakaeagdpaaGreatW15
import Derived.Test.YtmfpdakaeagdpaaGreatW16
import Derived.Test.YtmfpdakaeagdpaaGreatW17
import Derived.Test.YtmfpdakaeagdpaaGreatW18
import Derived.Test.YtmfpdakaeagdpaaGreatW19
import Derived.Test.YtmfpdakaeagdpaaGreatW20
import Derived.Test.YtmfpdakaeagdpaaGreatW21
import Derived.Test.YtmfpdakaeagdpaaGreatW22
import Derived.Test.YtmfpdakaeagdpaaGreatW23
import Derived.Test.YtmfpdakaeagdpaaGreatW24
import Derived.Test.YtmfpdakaeagdpaaGreatW25
import Derived.Test.YtmfpdakaeagdpaaGreatW26
import Derived.Test.YtmfpdakaeagdpaaGreatW27
import Derived.Test.YtmfpdakaeagdpaaGreatX32n01
import Derived.Test.YtmfpdakaeagdpaaGreatX32n02
import Derived.Test.YtmfpdakaeagdpaaGreatX32n03
import Derived.Test.YtmfpdakaeagdpaaGreatX32n04
import Derived.Below
import Derived.BigFrame
import Derived.BigQuiet
import Derived.Deep.CutBlock
import Derived.Deep.CutRange
import Derived.Deep.LoopGhost
import Derived.Deep.Quiet
import Derived.Deep.RegionHeld3
import Derived.DeepKeys4
import Derived.KernelRfl
import Derived.Laws.BitsAllLaws
import Derived.Laws.EntriesVeiled
import Derived.Lib.AppendZeros
import Derived.Lib.Hide
import Derived.Lib.SlKeysI
import Derived.Lib.SliceRun
import Derived.LoopIn
import Derived.LoopNIn
import Derived.Maps.AppendAt
import Derived.Maps.OwnIn
import Derived.Maps.OwnSet
import Derived.OneCell
import Derived.OrdersHeld
import Derived.OrdersIn
import Derived.OwnWalkIn
import Derived.RangeFuncBound
import Derived.RangeFuncBox
import Derived.RangeFuncCalls
import Derived.RangeFuncLeaves
import Derived.RangeFuncNested
import Derived.RangeFuncWrites
import Derived.Shelf.Abstract
import Derived.Shelf.SortM.Plain
import Derived.Still
import Derived.TacticsIn
import Derived.TacticsInMore
import Derived.Test.YtmfpdakaeagdpaaGreatProg
import Derived.WalkKit
import Derived.WalkLawsBesides
import Derived.WalkSpells
import Derived.WideKeyPair
namespace Go.Proofs.YtmfpdakaeagdpaaGreat
set_option maxRecDepth 100000
set_option maxHeartbeats 16000000
section
open Go Go.RowKit
attribute [local go_sem] over_cell
attribute [local go_sem] Oper.semAt_some
theorem lfam_F (O X0 X1 X2 X3 X4:Nat) (w:World) (hX:X0≤255∧X1≤255∧X2≤255∧X3≤255∧X4≤255) (N Mo:Nat) (hO:O≤255) (hM:(O:Int) % 16=(Mo:Int)) (hN:1+(Mo:Int)=(N:Int)) (hN16:N≤16) (R2:Int) (k2:Nat) (Y2:List Int) (er2:Int) (her2:er2=0∨er2=18) (k1:Nat) (Y1:List Int) (B:Bool) (pD gD:Int) (hB:er2=0→B=(gD==1)) (R3:Int) (k3 k4:Nat) (Y3 Y4:List Int) (er3:Int) (k5 NN:Nat) (css:List (List Int)) (er5:Int) (he3:er3=0) (he5:er5=0) (hR3:R3=(N:Int)) (hk4:k4=N*N) (hk5:k5+1=N) (hNN:N=NN) (hfl:fldB N=true) (hY3:Y3=fadL N) (hY4:Y4=ftiL N) (hk3:k3=N*N) (hcs:css=famL N)
  (H1:tG w 54 #[.int .i64 (N:Int)] (N:Int) k1 Y1 0) (H2:tG w 55 #[.int .i64 (N:Int),.int .i64 (X3:Int),.int .i64 (X4:Int)] R2 k2 Y2 er2) (HC1:∀W a c,IC W a k1 Y1→Calls Tryz.prog 22 #[.agg #[.int .i64 (N:Int),.int .i64 (N:Int),.slice a k1 c]] W fun e w'=>e = .returned (.int .i64 0)∧Below W.heap.size W w') (HO1:er2=0→∀W a c a2 c2,IC W a k2 Y2→IC W a2 k1 Y1→Calls Tryz.prog 45 #[.agg #[.int .i64 R2,.int .i64 R2,.slice a k2 c],.agg #[.int .i64 (N:Int),.int .i64 (N:Int),.slice a2 k1 c2]] W fun e w'=>e = .returned (.tuple #[.bool B,.int .i64 0])∧Below W.heap.size W w') (HM:∀W,Calls Tryz.prog 62 #[.int .i64 ((X3:Int) - (X4:Int)),.int .i64 (N:Int)] W fun e w'=>e = .returned (.int .i64 pD)∧W=w') (HG:tH w 61 #[.int .i64 pD,.int .i64 (N:Int)] (.int .i64 gD)) (H3:tF w (N:Int) R3 k3 k4 Y3 Y4 er3) (H4:tL w (N:Int) k5 NN css er5) (HF:tH w 63 #[.int .i64 (N:Int)] (.bool true)) (HC3:∀W a c,IC W a k3 Y3→Calls Tryz.prog 22 #[.agg #[.int .i64 (N:Int),.int .i64 (N:Int),.slice a k3 c]] W fun e w'=>e = .returned (.int .i64 0)∧Below W.heap.size W w'):Calls Tryz.prog 15 #[.int .u8 (O:Int),.agg #[.int .u8 (X0:Int),.int .u8 (X1:Int),.int .u8 (X2:Int),.int .u8 (X3:Int),.int .u8 (X4:Int)]] w fun e w'=>e = .returned (.bool true)∧Below w.heap.size w w':=by
 subst he3 he5
 subst hR3 hNN hk3 hk4
 obtain ⟨x0b,x1b,x2b,x3b,x4b⟩:=hX
 replace H1:=Lib.hid H1
 replace H2:=Lib.hid H2
 replace HC1:=Lib.hid HC1
 replace HO1:=Lib.hid HO1
 replace HM:=Lib.hid HM
 replace HG:=Lib.hid HG
 replace H3:=Lib.hid H3
 replace H4:=Lib.hid H4
 replace HF:=Lib.hid HF
 replace hB:=Lib.hid hB
 replace her2:=Lib.hid her2
 replace HC3:=Lib.hid HC3
 replace hY3:=Lib.hid hY3
 replace hY4:=Lib.hid hY4
 replace hcs:=Lib.hid hcs
 replace hfl:=Lib.hid hfl
 go_enter Tryz.func15,Tryz.ntmps15
 go_upto_region 1 with fail
 have fsz:(w.alloc (.cells #[.int .u8 (X0:Int),.int .u8 (X1:Int),.int .u8 (X2:Int),.int .u8 (X3:Int),.int .u8 (X4:Int)] 92)).heap.size=w.heap.size+1:=by simp only[World.size_alloc]
 have fB:Below w.heap.size w (w.alloc (.cells #[.int .u8 (X0:Int),.int .u8 (X1:Int),.int .u8 (X2:Int),.int .u8 (X3:Int),.int .u8 (X4:Int)] 92)):=(Below.refl _ _).alloc (Nat.le_refl _) _
 have fq0:(w.alloc (.cells #[.int .u8 (X0:Int),.int .u8 (X1:Int),.int .u8 (X2:Int),.int .u8 (X3:Int),.int .u8 (X4:Int)] 92)).heap[w.heap.size]?=some (.cells #[.int .u8 (X0:Int),.int .u8 (X1:Int),.int .u8 (X2:Int),.int .u8 (X3:Int),.int .u8 (X4:Int)] 92 (0,0)):=by have h:=World.alloc_heap_new w (.cells #[.int .u8 (X0:Int),.int .u8 (X1:Int),.int .u8 (X2:Int),.int .u8 (X3:Int),.int .u8 (X4:Int)] 92);exact h
 generalize (w.alloc (.cells #[.int .u8 (X0:Int),.int .u8 (X1:Int),.int .u8 (X2:Int),.int .u8 (X3:Int),.int .u8 (X4:Int)] 92))=W0 at fsz fB fq0 ⊢
 have Q0:=Lib.hid fq0
 have HB:=Lib.hid fB
 clear fq0 fsz fB
 go_upto_region 2 with fail
 have gsz:(W0.alloc (.cells #[.int .i64 (N:Int)] 3)).heap.size=W0.heap.size+1:=by simp only[World.size_alloc]
 have gB:Below W0.heap.size W0 (W0.alloc (.cells #[.int .i64 (N:Int)] 3)):=(Below.refl _ _).alloc (Nat.le_refl _) _
 have gq0:(W0.alloc (.cells #[.int .i64 (N:Int)] 3)).heap[W0.heap.size]?=some (.cells #[.int .i64 (N:Int)] 3 (0,0)):=by have h:=World.alloc_heap_new W0 (.cells #[.int .i64 (N:Int)] 3);exact h
 generalize (W0.alloc (.cells #[.int .i64 (N:Int)] 3))=V1 at gsz gB gq0 ⊢
 have hmv:Below W0.heap.size W0 V1:=gB
 replace Q0:=Lib.hid (keepq hmv Q0.out)
 replace HB:=Lib.hid (keep_trans HB.out hmv)
 clear hmv
 have Q5:=Lib.hid gq0
 clear gsz gq0 gB hM hN hO
 obtain ⟨x0,x1,x2,x3,x4,xl⟩:=c5_of Q0.out
 obtain ⟨n0,nf,nl⟩:=c1_of Q5.out
 go_upto_region 3 with (first|(go_at_call 55;(with_reducible refine (H2.out _ HB.out).mono ?_);rintro _ u2 ⟨a2,c2,rfl,il,hbu2⟩)|fail)
 have hsz:(u2.alloc (.cells #[.int .i64 R2,.int .i64 R2,.slice a2 k2 c2] 24)).heap.size=u2.heap.size+1:=by simp only[World.size_alloc]
 have hB:Below u2.heap.size u2 (u2.alloc (.cells #[.int .i64 R2,.int .i64 R2,.slice a2 k2 c2] 24)):=(Below.refl _ _).alloc (Nat.le_refl _) _
 have hq0:(u2.alloc (.cells #[.int .i64 R2,.int .i64 R2,.slice a2 k2 c2] 24)).heap[u2.heap.size]?=some (.cells #[.int .i64 R2,.int .i64 R2,.slice a2 k2 c2] 24 (0,0)):=by have h:=World.alloc_heap_new u2 (.cells #[.int .i64 R2,.int .i64 R2,.slice a2 k2 c2] 24);exact h
 generalize (u2.alloc (.cells #[.int .i64 R2,.int .i64 R2,.slice a2 k2 c2] 24))=V2 at hsz hB hq0 ⊢
 clear x0 x1 x2 x3 x4 xl n0 nf nl
 have hmv:Below V1.heap.size V1 V2:=keep_trans hbu2 hB
 replace Q0:=Lib.hid (keepq hmv Q0.out)
 replace Q5:=Lib.hid (keepq hmv Q5.out)
 replace HB:=Lib.hid (keep_trans HB.out hmv)
 clear hmv
 have Q6:=Lib.hid hq0
 have IL:=Lib.hid (il.mono hB)
 clear hbu2 hsz hq0 hB il
 obtain ⟨n0,nf,nl⟩:=c1_of Q5.out
 go_upto_region 4 with (first|(go_at_call 54;(with_reducible refine (H1.out _ HB.out).mono ?_);rintro _ u1 ⟨a1,c1,rfl,iy,hbu1⟩)|fail)
 have gsz:(u1.alloc (.cells #[.int .i64 (N:Int),.int .i64 (N:Int),.slice a1 k1 c1] 24)).heap.size=u1.heap.size+1:=by simp only[World.size_alloc]
 have gB:Below u1.heap.size u1 (u1.alloc (.cells #[.int .i64 (N:Int),.int .i64 (N:Int),.slice a1 k1 c1] 24)):=(Below.refl _ _).alloc (Nat.le_refl _) _
 have gq0:(u1.alloc (.cells #[.int .i64 (N:Int),.int .i64 (N:Int),.slice a1 k1 c1] 24)).heap[u1.heap.size]?=some (.cells #[.int .i64 (N:Int),.int .i64 (N:Int),.slice a1 k1 c1] 24 (0,0)):=by have h:=World.alloc_heap_new u1 (.cells #[.int .i64 (N:Int),.int .i64 (N:Int),.slice a1 k1 c1] 24);exact h
 generalize (u1.alloc (.cells #[.int .i64 (N:Int),.int .i64 (N:Int),.slice a1 k1 c1] 24))=V3 at gsz gB gq0 ⊢
 clear n0 nf nl
 have hmv:Below V2.heap.size V2 V3:=keep_trans hbu1 gB
 replace Q0:=Lib.hid (keepq hmv Q0.out)
 replace Q5:=Lib.hid (keepq hmv Q5.out)
 replace Q6:=Lib.hid (keepq hmv Q6.out)
 replace IL:=Lib.hid (IL.out.mono hmv)
 replace HB:=Lib.hid (keep_trans HB.out hmv)
 clear hmv
 have Q8:=Lib.hid gq0
 have IY:=Lib.hid (iy.mono gB)
 clear hbu1 gsz gq0 gB iy
 obtain ⟨n0,nf,nl⟩:=c1_of Q5.out
 obtain ⟨q0,q1,q2,ql⟩:=c3_of Q8.out
 have dN:((N:Int) != (N:Int))=false:=by simp
 go_cut [70] from 30 to 96 (fun s70 wx=>s70 = .bool false∧Hid (Below V3.heap.size V3 wx))
 case first =>
  rcases her2.out with rfl|rfl
  ·go_wp2_with (first|(go_at_call 22;(with_reducible refine (HC1.out _ _ _ IY.out).mono ?_);rintro _ t1 ⟨rfl,hbt1⟩;have hkt1:Below V3.heap.size V3 t1:=hbt1;obtain ⟨nt10,nt1f,nt1l⟩:=c1_of (keepq hkt1 Q5.out);obtain ⟨qt10,qt11,qt12,qt1l⟩:=c3_of (keepq hkt1 Q8.out))|fail)
   go_meet
   case rel=>exact ⟨rfl,hbt1⟩
  ·go_wp2_with (first|(go_at_call 22;(with_reducible refine (HC1.out _ _ _ IY.out).mono ?_);rintro _ t1 ⟨rfl,hbt1⟩;have hkt1:Below V3.heap.size V3 t1:=hbt1;obtain ⟨nt10,nt1f,nt1l⟩:=c1_of (keepq hkt1 Q5.out);obtain ⟨qt10,qt11,qt12,qt1l⟩:=c3_of (keepq hkt1 Q8.out))|fail)
   go_meet
   case rel=>exact ⟨rfl,hbt1⟩
 obtain ⟨rfl,hbc⟩:=hcut
 rename World=>wA
 clear dN
 clear n0 nf nl q0 q1 q2 ql
 have hmv:Below V3.heap.size V3 wA:=hbc.out
 replace Q0:=Lib.hid (keepq hmv Q0.out)
 replace Q5:=Lib.hid (keepq hmv Q5.out)
 replace Q6:=Lib.hid (keepq hmv Q6.out)
 replace Q8:=Lib.hid (keepq hmv Q8.out)
 replace IL:=Lib.hid (IL.out.mono hmv)
 replace IY:=Lib.hid (IY.out.mono hmv)
 replace HB:=Lib.hid (keep_trans HB.out hmv)
 clear hmv hbc
 obtain ⟨x0,x1,x2,x3,x4,xl⟩:=c5_of Q0.out
 obtain ⟨n0,nf,nl⟩:=c1_of Q5.out
 obtain ⟨p0,p1,p2,pl⟩:=c3_of Q6.out
 obtain ⟨q0,q1,q2,ql⟩:=c3_of Q8.out
 go_upto_if 72 with (fail)
 go_cut [10,11] from 30 to 96 (fun _ _ wx=>Hid (Below wA.heap.size wA wx))
 case first =>
  rcases her2.out with rfl|rfl
  ·have hB0:=hB.out rfl
   cases h9:(gD==1)
   all_goals
    rw[h9] at hB0
    subst hB0
   ·go_upto_region 8 with (first|(go_at_call 45;(with_reducible refine ((HO1.out rfl) _ _ _ _ _ IL.out IY.out).mono ?_);rintro _ r1 ⟨rfl,hbr1⟩;have hkr1:Below wA.heap.size wA r1:=hbr1;obtain ⟨xr10,xr11,xr12,xr13,xr14,xr1l⟩:=c5_of (keepq hkr1 Q0.out);obtain ⟨nr10,nr1f,nr1l⟩:=c1_of (keepq hkr1 Q5.out))|fail)
    refine wp_region_S (fun w'=>∃u,w'=over (r1) u) [] [(0,0),(0,1),(0,2),(0,3),(0,4),(0,5),(0,6),(0,7),(0,8),(0,9),(0,10),(0,11),(0,13),(1,12),(1,14),(0,15),(0,16),(0,17)] (by kernel_rfl) (by kernel_rfl) (by exact ⟨_,below_over (by repeat (first|assumption|exact Below.refl _ _|refine keep_drew ?_|refine keep_alloc ?_ _|refine keep_trans ?_ (by assumption)))⟩) ?_
    dsimp only[pickOps,nthOp]
    repeat (first|(refine wpS_skip rfl (fun K hK=>?_);go_big_quiet_op;refine hK _ ?_;clear hK K)|(refine wpS_quiet rfl rfl (fun K hK=>?_);go_big_quiet_op;refine hK _ ?_;clear hK K)|(refine wpS_loud ?_;go_wp2_with (first|(go_at_call 62;(with_reducible refine (HM.out _).mono ?_);rintro _ _ ⟨rfl,rfl⟩)|(go_at_call 61;(with_reducible refine (HG.out _ (keep_trans HB.out (keep_trans hkr1 (by (repeat (first|assumption|exact Below.refl _ _|refine keep_drew ?_|refine keep_alloc ?_ _|refine keep_trans ?_ (by assumption))))))).mono ?_);rintro _ r2 ⟨rfl,hbr2⟩)|fail);refine ⟨?_,?_⟩;focus (exact ⟨_,below_over (by repeat (first|assumption|exact Below.refl _ _|refine keep_drew ?_|refine keep_alloc ?_ _|refine keep_trans ?_ (by assumption)))⟩)))
    refine wpS_end ?_
    have hbf:Below wA.heap.size wA r2:=keep_trans hkr1 (by (repeat (first|assumption|exact Below.refl _ _|refine keep_drew ?_|refine keep_alloc ?_ _|refine keep_trans ?_ (by assumption))))
    go_wp2_with fail
    go_meet
    case rel=>exact hbf
   ·go_upto_region 8 with (first|(go_at_call 45;(with_reducible refine ((HO1.out rfl) _ _ _ _ _ IL.out IY.out).mono ?_);rintro _ r1 ⟨rfl,hbr1⟩;have hkr1:Below wA.heap.size wA r1:=hbr1;obtain ⟨xr10,xr11,xr12,xr13,xr14,xr1l⟩:=c5_of (keepq hkr1 Q0.out);obtain ⟨nr10,nr1f,nr1l⟩:=c1_of (keepq hkr1 Q5.out))|fail)
    refine wp_region_S (fun w'=>∃u,w'=over (r1) u) [] [(0,0),(0,1),(0,2),(0,3),(0,4),(0,5),(0,6),(0,7),(0,8),(0,9),(0,10),(0,11),(0,13),(1,12),(1,14),(0,15),(0,16),(0,17)] (by kernel_rfl) (by kernel_rfl) (by exact ⟨_,below_over (by repeat (first|assumption|exact Below.refl _ _|refine keep_drew ?_|refine keep_alloc ?_ _|refine keep_trans ?_ (by assumption)))⟩) ?_
    dsimp only[pickOps,nthOp]
    repeat (first|(refine wpS_skip rfl (fun K hK=>?_);go_big_quiet_op;refine hK _ ?_;clear hK K)|(refine wpS_quiet rfl rfl (fun K hK=>?_);go_big_quiet_op;refine hK _ ?_;clear hK K)|(refine wpS_loud ?_;go_wp2_with (first|(go_at_call 62;(with_reducible refine (HM.out _).mono ?_);rintro _ _ ⟨rfl,rfl⟩)|(go_at_call 61;(with_reducible refine (HG.out _ (keep_trans HB.out (keep_trans hkr1 (by (repeat (first|assumption|exact Below.refl _ _|refine keep_drew ?_|refine keep_alloc ?_ _|refine keep_trans ?_ (by assumption))))))).mono ?_);rintro _ r2 ⟨rfl,hbr2⟩)|fail);refine ⟨?_,?_⟩;focus (exact ⟨_,below_over (by repeat (first|assumption|exact Below.refl _ _|refine keep_drew ?_|refine keep_alloc ?_ _|refine keep_trans ?_ (by assumption)))⟩)))
    refine wpS_end ?_
    have hbf:Below wA.heap.size wA r2:=keep_trans hkr1 (by (repeat (first|assumption|exact Below.refl _ _|refine keep_drew ?_|refine keep_alloc ?_ _|refine keep_trans ?_ (by assumption))))
    go_wp2_with fail
    go_meet
    case rel=>exact hbf
  ·go_wp2_with fail
   go_meet
   case rel=>exact Below.refl _ _
 have hbc:=hcut
 rename World=>wD
 clear x0 x1 x2 x3 x4 xl n0 nf nl p0 p1 p2 pl q0 q1 q2 ql
 have hmv:Below wA.heap.size wA wD:=hbc.out
 replace Q0:=Lib.hid (keepq hmv Q0.out)
 replace Q5:=Lib.hid (keepq hmv Q5.out)
 replace Q6:=Lib.hid (keepq hmv Q6.out)
 replace Q8:=Lib.hid (keepq hmv Q8.out)
 replace IL:=Lib.hid (IL.out.mono hmv)
 replace IY:=Lib.hid (IY.out.mono hmv)
 replace HB:=Lib.hid (keep_trans HB.out hmv)
 clear hmv hbc
 clear Q6 Q8 IL IY H1 H2 HC1 HO1 HM HG hB her2
 obtain ⟨n0,nf,nl⟩:=c1_of Q5.out
 go_upto_region 11 with (first|(go_at_call 56;(with_reducible refine (H3.out _ HB.out).mono ?_);rintro _ u3 ⟨a3,c3,a4,c4,rfl,ic3,id4,hbu3⟩)|fail)
 have gsz:((u3.alloc (.cells #[.int .i64 (N:Int),.int .i64 (N:Int),.slice a3 (N*N) c3] 24)).alloc (.cells #[.int .i64 (N:Int),.int .i64 (N:Int),.slice a4 (N*N) c4] 24)).heap.size=u3.heap.size+2:=by simp only[World.size_alloc] <;> omega
 have gB:Below u3.heap.size u3 ((u3.alloc (.cells #[.int .i64 (N:Int),.int .i64 (N:Int),.slice a3 (N*N) c3] 24)).alloc (.cells #[.int .i64 (N:Int),.int .i64 (N:Int),.slice a4 (N*N) c4] 24)):=((Below.refl _ _).alloc (Nat.le_refl _) _).alloc (by simp only[World.size_alloc];omega) _
 have gq0:((u3.alloc (.cells #[.int .i64 (N:Int),.int .i64 (N:Int),.slice a3 (N*N) c3] 24)).alloc (.cells #[.int .i64 (N:Int),.int .i64 (N:Int),.slice a4 (N*N) c4] 24)).heap[u3.heap.size]?=some (.cells #[.int .i64 (N:Int),.int .i64 (N:Int),.slice a3 (N*N) c3] 24 (0,0)):=by have h:=World.alloc_heap_new u3 (.cells #[.int .i64 (N:Int),.int .i64 (N:Int),.slice a3 (N*N) c3] 24);exact (Below.heap_alloc _ _ _ (by simp only[World.size_alloc];omega)).trans (h)
 have gq1:((u3.alloc (.cells #[.int .i64 (N:Int),.int .i64 (N:Int),.slice a3 (N*N) c3] 24)).alloc (.cells #[.int .i64 (N:Int),.int .i64 (N:Int),.slice a4 (N*N) c4] 24)).heap[u3.heap.size+1]?=some (.cells #[.int .i64 (N:Int),.int .i64 (N:Int),.slice a4 (N*N) c4] 24 (0,0)):=by have h:=World.alloc_heap_new (u3.alloc (.cells #[.int .i64 (N:Int),.int .i64 (N:Int),.slice a3 (N*N) c3] 24)) (.cells #[.int .i64 (N:Int),.int .i64 (N:Int),.slice a4 (N*N) c4] 24);simp only[World.size_alloc] at h;exact h
 generalize ((u3.alloc (.cells #[.int .i64 (N:Int),.int .i64 (N:Int),.slice a3 (N*N) c3] 24)).alloc (.cells #[.int .i64 (N:Int),.int .i64 (N:Int),.slice a4 (N*N) c4] 24))=V5 at gsz gB gq0 gq1 ⊢
 have hs12:=gsz
 have HZ:Hid (u3.heap.size<V5.heap.size):=by unfold Hid;omega
 clear hs12
 clear n0 nf nl
 have hmv:Below wD.heap.size wD V5:=keep_trans hbu3 gB
 replace Q0:=Lib.hid (keepq hmv Q0.out)
 replace Q5:=Lib.hid (keepq hmv Q5.out)
 replace HB:=Lib.hid (keep_trans HB.out hmv)
 clear hmv
 have Q12:=Lib.hid gq0
 have Q13:=Lib.hid gq1
 have IE:=Lib.hid (ic3.mono gB)
 have ID:=Lib.hid (id4.mono gB)
 clear hbu3 gsz gq0 gq1 gB ic3 id4
 obtain ⟨n0,nf,nl⟩:=c1_of Q5.out
 go_upto_region 12 with (first|(go_at_call 57;(with_reducible refine (H4.out _ HB.out).mono ?_);rintro _ u4 ⟨a5,c5,rfl,gl5,hbu4⟩)|fail)
 clear n0 nf nl
 have hmv:Below V5.heap.size V5 u4:=hbu4
 replace Q0:=Lib.hid (keepq hmv Q0.out)
 replace Q5:=Lib.hid (keepq hmv Q5.out)
 replace Q12:=Lib.hid (keepq hmv Q12.out)
 replace Q13:=Lib.hid (keepq hmv Q13.out)
 replace IE:=Lib.hid (IE.out.mono hmv)
 replace ID:=Lib.hid (ID.out.mono hmv)
 replace HB:=Lib.hid (keep_trans HB.out hmv)
 clear hmv
 have GF:=Lib.hid gl5
 clear hbu4 gl5
 obtain ⟨n0,nf,nl⟩:=c1_of Q5.out
 go_upto_region 14 with (first|(go_at_call 63;(with_reducible refine (HF.out _ HB.out).mono ?_);rintro _ u5 ⟨rfl,hbu5⟩)|fail)
 clear n0 nf nl
 have hmv:Below u4.heap.size u4 u5:=hbu5
 replace Q0:=Lib.hid (keepq hmv Q0.out)
 replace Q5:=Lib.hid (keepq hmv Q5.out)
 replace Q12:=Lib.hid (keepq hmv Q12.out)
 replace Q13:=Lib.hid (keepq hmv Q13.out)
 replace IE:=Lib.hid (IE.out.mono hmv)
 replace ID:=Lib.hid (ID.out.mono hmv)
 replace GF:=Lib.hid (GF.out.below hmv)
 replace HB:=Lib.hid (keep_trans HB.out hmv)
 clear hmv hbu5
 obtain ⟨s0,s1,s2,sl⟩:=c3_of Q12.out
 obtain ⟨S,F0⟩:=fld_laws hN16 hfl.out
 have F:=Lib.hid F0
 clear F0
 have hN2:2≤N:=by
  rcases fld_cases hN16 hfl.out with e|e|e|e|e|e|e|e|e|e <;> omega
 have hnnI:(N:Int)*(N:Int)=((N*N:Nat):Int):=(Int.natCast_mul _ _).symm
 have hNN:=Nat.mul_le_mul hN16 hN16
 have HV3:Hid (∀x y,x<N→y<N→Y3[x*N+y]?.getD 0=((aN N x y:Nat):Int)):=fun x y hx hy=>by
  rw[hY3.out]
  have h0:=fAdd_num (x:=x) (y:=y) hN16 hfl.out
  have h1:=made_nat (N:=N) (s:=fun i j=>fAdd N i j) hx hy
  have h2:=(fad_latin hN16 hfl.out (by omega)).nat (gcell_lt hx hy)
  unfold fadL at h2 ⊢
  rw[h2.1,h1]
  rfl
 have HV4:Hid (∀p,p<N*N→Y4[p]?.getD 0=((tN N (p / N) (p % N):Nat):Int)):=fun p hp=>by
  rw[hY4.out]
  have h0:=fTimes_num (x:=p / N) (y:=p % N) hN16 hfl.out
  unfold ftiL madeTo tN
  rw[List.getElem?_map,List.getElem?_range hp,Option.map_some,Option.getD_some]
  show fTimes N (p / N) (p % N)=_
  omega
 have HCW:=Lib.hid (HC3.out _ _ c3 IE.out)
 generalize hnn9:N*N=nn at *
 have dN:((N:Int) != (N:Int))=false:=by simp
 have dnn:((nn:Int) != (nn:Int))=false:=by simp
 have hk5I:(N:Int) - 1=(k5:Int):=by omega
 have dk5:((k5:Int) != (k5:Int))=false:=by simp
 have HNN:=Lib.hid hnn9
 clear hnn9 hk5
 go_upto_region 16 with (first|(go_at_call 22;(with_reducible refine (HCW.out).mono ?_);rintro _ u6 ⟨rfl,hbu6⟩;have hku6:Below u5.heap.size u5 u6:=hbu6;obtain ⟨nu60,nu6f,nu6l⟩:=c1_of (keepq hku6 Q5.out);obtain ⟨su60,su61,su62,su6l⟩:=c3_of (keepq hku6 Q12.out);obtain ⟨tu60,tu61,tu62,tu6l⟩:=c3_of (keepq hku6 Q13.out))|fail)
 clear s0 s1 s2 sl nu60 nu6f nu6l su60 su61 su62 su6l tu60 tu61 tu62 tu6l
 have hmv:Below u5.heap.size u5 u6:=hbu6
 replace Q0:=Lib.hid (keepq hmv Q0.out)
 replace Q5:=Lib.hid (keepq hmv Q5.out)
 replace Q12:=Lib.hid (keepq hmv Q12.out)
 replace Q13:=Lib.hid (keepq hmv Q13.out)
 replace IE:=Lib.hid (IE.out.mono hmv)
 replace ID:=Lib.hid (ID.out.mono hmv)
 replace GF:=Lib.hid (GF.out.below hmv)
 replace HB:=Lib.hid (keep_trans HB.out hmv)
 clear hmv hbu6 hku6 dN dnn dk5 hnnI HCW
 obtain ⟨t0,t1,t2,tl⟩:=c3_of Q13.out
 obtain ⟨n0,nf,nl⟩:=c1_of Q5.out
 go_wp2_with fail
 go_loopw [18,162] (fun _ s162 wr=>∃p:Nat,p≤nn∧s162 = .int .i64 (p:Int)∧wr=u6) (fun _ s162 _=>nn - (intOf s162).toNat)
 case atStart=>exact ⟨0,by omega,rfl,rfl⟩
 case round =>
  obtain ⟨p,hp,rfl,hwr⟩:=hrel
  replace hwr:=hwr.symm
  subst hwr
  by_cases hlt:p<nn
  ·have hpi:(p:Int)<(nn:Int):=by omega
   obtain ⟨b1,o1,hae,hl1,hc1⟩:=ID.out.2 p hlt
   subst hae
   rw[HV4.out p hlt] at hc1
   have hmd:p / N<N∧p % N<N:=by
    rw[← HNN.out] at hlt
    exact ⟨(cell_parts hlt).1,(cell_parts hlt).2.1⟩
   have hr:=F.out.rm _ _ hmd.1 hmd.2
   clear hmd
   generalize tN N (p / N) (p % N)=tv at hc1 hr
   have d1:decide ((tv:Int)<0)=false:=decide_eq_false (by omega)
   have d2:decide ((N:Int)≤(tv:Int))=false:=decide_eq_false (by omega)
   go_wp2_with fail
   go_roundw
   case rel=>exact ⟨p+1,by omega,by go_num,trivial⟩
   case measure=>simp[intOf];omega
  ·have hpi:¬(p:Int)<(nn:Int):=by omega
   obtain ⟨u,hu⟩:∃u,u=X0 % N:=⟨_,rfl⟩
   obtain ⟨v,hv⟩:∃v,v=X1 % N:=⟨_,rfl⟩
   obtain ⟨z,hz⟩:∃z,z=X2 % N:=⟨_,rfl⟩
   have eu:(X0:Int) % (N:Int)=(u:Int):=by rw[hu];exact (Int.natCast_emod _ _).symm
   have ev:(X1:Int) % (N:Int)=(v:Int):=by rw[hv];exact (Int.natCast_emod _ _).symm
   have ez:(X2:Int) % (N:Int)=(z:Int):=by rw[hz];exact (Int.natCast_emod _ _).symm
   have hu2:u<N:=by rw[hu];exact Nat.mod_lt _ (by omega)
   have hv2:v<N:=by rw[hv];exact Nat.mod_lt _ (by omega)
   have hz2:z<N:=by rw[hz];exact Nat.mod_lt _ (by omega)
   have hne:(N:Int)≠0:=by omega
   clear hu hv hz
   have HADD:Hid (∀W,Below u6.heap.size u6 W→∀x y,x<N→y<N→clo 80 u3.heap.size W0.heap.size (x:Int) (y:Int) ((aN N x y:Nat):Int) W):=fun W hb x y hx hy=>lfc1_c N x y u3.heap.size W0.heap.size (N:Int) a3 nn c3 Y3 hN16 hx hy (Nat.le_of_eq HNN.out) _ (HV3.out x y hx hy) W (keepq hb Q12.out) (keepq hb Q5.out) (IE.out.mono hb)
   have HTIM:Hid (∀W,Below u6.heap.size u6 W→∀x y,x<N→y<N→clo 81 (u3.heap.size+1) W0.heap.size (x:Int) (y:Int) ((tN N x y:Nat):Int) W):=fun W hb x y hx hy=>lfc2_c N x y (u3.heap.size+1) W0.heap.size (N:Int) a4 nn c4 Y4 hN16 hx hy (Nat.le_of_eq HNN.out) _ (by have h9:=HV4.out (x*N+y) (by rw[← HNN.out];exact gcell_lt hx hy);rw[(gcell_div hy).1,(gcell_div hy).2] at h9;exact h9) W (keepq hb Q13.out) (keepq hb Q5.out) (ID.out.mono hb)
   have hs2:=F.out.ra u v hu2 hv2
   have ht2:=F.out.ra v z hv2 hz2
   have hp2:=F.out.rm u v hu2 hv2
   have hp22:=F.out.rm v z hv2 hz2
   have hp32:=F.out.rm u z hu2 hz2
   have A1:Hid (∀W,Below u6.heap.size u6 W→clo 80 u3.heap.size W0.heap.size (u:Int) (v:Int) ((aN N u v:Nat):Int) W):=fun W hb=>HADD.out W hb u v hu2 hv2
   have A2:Hid (∀W,Below u6.heap.size u6 W→clo 80 u3.heap.size W0.heap.size (v:Int) (u:Int) ((aN N u v:Nat):Int) W):=fun W hb=>by rw[F.out.ca u v hu2 hv2];exact HADD.out W hb v u hv2 hu2
   have T1:Hid (∀W,Below u6.heap.size u6 W→clo 81 (u3.heap.size+1) W0.heap.size (u:Int) (v:Int) ((tN N u v:Nat):Int) W):=fun W hb=>HTIM.out W hb u v hu2 hv2
   have T2:Hid (∀W,Below u6.heap.size u6 W→clo 81 (u3.heap.size+1) W0.heap.size (v:Int) (u:Int) ((tN N u v:Nat):Int) W):=fun W hb=>by rw[F.out.cm u v hu2 hv2];exact HTIM.out W hb v u hv2 hu2
   have A3:Hid (∀W,Below u6.heap.size u6 W→clo 80 u3.heap.size W0.heap.size ((aN N u v:Nat):Int) (z:Int) ((aN N (aN N u v) z:Nat):Int) W):=fun W hb=>HADD.out W hb (aN N u v) z hs2 hz2
   have A4:Hid (∀W,Below u6.heap.size u6 W→clo 80 u3.heap.size W0.heap.size (v:Int) (z:Int) ((aN N v z:Nat):Int) W):=fun W hb=>HADD.out W hb v z hv2 hz2
   have A5:Hid (∀W,Below u6.heap.size u6 W→clo 80 u3.heap.size W0.heap.size (u:Int) ((aN N v z:Nat):Int) ((aN N (aN N u v) z:Nat):Int) W):=fun W hb=>by rw[F.out.aa u v z hu2 hv2 hz2];exact HADD.out W hb u (aN N v z) hu2 ht2
   have T3:Hid (∀W,Below u6.heap.size u6 W→clo 81 (u3.heap.size+1) W0.heap.size ((tN N u v:Nat):Int) (z:Int) ((tN N (tN N u v) z:Nat):Int) W):=fun W hb=>HTIM.out W hb (tN N u v) z hp2 hz2
   have T4:Hid (∀W,Below u6.heap.size u6 W→clo 81 (u3.heap.size+1) W0.heap.size (v:Int) (z:Int) ((tN N v z:Nat):Int) W):=fun W hb=>HTIM.out W hb v z hv2 hz2
   have T5:Hid (∀W,Below u6.heap.size u6 W→clo 81 (u3.heap.size+1) W0.heap.size (u:Int) ((tN N v z:Nat):Int) ((tN N (tN N u v) z:Nat):Int) W):=fun W hb=>by rw[F.out.am u v z hu2 hv2 hz2];exact HTIM.out W hb u (tN N v z) hu2 hp22
   have T6:Hid (∀W,Below u6.heap.size u6 W→clo 81 (u3.heap.size+1) W0.heap.size (u:Int) ((aN N v z:Nat):Int) ((tN N u (aN N v z):Nat):Int) W):=fun W hb=>HTIM.out W hb u (aN N v z) hu2 ht2
   have T7:Hid (∀W,Below u6.heap.size u6 W→clo 81 (u3.heap.size+1) W0.heap.size (u:Int) (z:Int) ((tN N u z:Nat):Int) W):=fun W hb=>HTIM.out W hb u z hu2 hz2
   have A6:Hid (∀W,Below u6.heap.size u6 W→clo 80 u3.heap.size W0.heap.size ((tN N u v:Nat):Int) ((tN N u z:Nat):Int) ((tN N u (aN N v z):Nat):Int) W):=fun W hb=>by rw[F.out.ds u v z hu2 hv2 hz2];exact HADD.out W hb (tN N u v) (tN N u z) hp2 hp32
   have A7:Hid (∀W,Below u6.heap.size u6 W→clo 80 u3.heap.size W0.heap.size (u:Int) 0 (u:Int) W):=fun W hb=>by have h9:=HADD.out W hb u 0 hu2 (by omega);rw[F.out.a0 u hu2] at h9;exact h9
   have T8:Hid (∀W,Below u6.heap.size u6 W→clo 81 (u3.heap.size+1) W0.heap.size (u:Int) 1 (u:Int) W):=fun W hb=>by have h9:=HTIM.out W hb u 1 hu2 (by omega);rw[F.out.m1 u hu2] at h9;exact h9
   have T9:Hid (∀W,Below u6.heap.size u6 W→clo 81 (u3.heap.size+1) W0.heap.size (u:Int) 0 0 W):=fun W hb=>by have h9:=HTIM.out W hb u 0 hu2 (by omega);rw[F.out.m0 u hu2] at h9;exact h9
   clear hs2 ht2 hp2 hp22 hp32
   generalize aN N (aN N u v) z=q9 at A1 A2 A3 A4 A5 A6 T1 T2 T3 T4 T5 T6 T7
   generalize tN N (tN N u v) z=q29 at A1 A2 A3 A4 A5 A6 T1 T2 T3 T4 T5 T6 T7
   generalize tN N u (aN N v z)=r9 at A1 A2 A3 A4 A5 A6 T1 T2 T3 T4 T5 T6 T7
   generalize aN N u v=s9 at A1 A2 A3 A4 A5 A6 T1 T2 T3 T4 T5 T6 T7
   generalize aN N v z=t9 at A1 A2 A3 A4 A5 A6 T1 T2 T3 T4 T5 T6 T7
   generalize tN N u v=p9 at A1 A2 A3 A4 A5 A6 T1 T2 T3 T4 T5 T6 T7
   generalize tN N v z=p29 at A1 A2 A3 A4 A5 A6 T1 T2 T3 T4 T5 T6 T7
   generalize tN N u z=p39 at A1 A2 A3 A4 A5 A6 T1 T2 T3 T4 T5 T6 T7
   have ds9:((s9:Int) != (s9:Int))=false:=by simp
   have dp9:((p9:Int) != (p9:Int))=false:=by simp
   have dq9:((q9:Int) != (q9:Int))=false:=by simp
   have dq29:((q29:Int) != (q29:Int))=false:=by simp
   have dr9:((r9:Int) != (r9:Int))=false:=by simp
   have du:((u:Int) != (u:Int))=false:=by simp
   clear t0 t1 t2 tl n0 nf nl
   obtain ⟨x0,x1,x2,x3,x4,xl⟩:=c5_of Q0.out
   obtain ⟨n0,nf,nl⟩:=c1_of Q5.out
   go_upto_region 24 with fail
   refine wp_region_S (fun w'=>∃u,w'=over (u6) u) [17] [(0,0),(0,1),(0,2),(0,3),(0,4),(0,5),(0,6),(0,7),(0,8),(0,9),(0,10),(0,11),(0,12),(0,13),(0,14),(1,15),(1,16),(2,17)] (by kernel_rfl) (by kernel_rfl) (by exact ⟨_,below_over (by repeat (first|assumption|exact Below.refl _ _|refine keep_drew ?_|refine keep_alloc ?_ _|refine keep_trans ?_ (by assumption)))⟩) ?_
   dsimp only[pickOps,nthOp]
   repeat (first|(refine wpS_skip rfl (fun K hK=>?_);go_big_quiet_op;refine hK _ ?_;clear hK K)|(refine wpS_quiet rfl rfl (fun K hK=>?_);go_big_quiet_op;refine hK _ ?_;clear hK K)|(refine wpS_loud ?_;go_wp2;refine ⟨?_,?_⟩;focus (exact ⟨_,below_over (by repeat (first|assumption|exact Below.refl _ _|refine keep_drew ?_|refine keep_alloc ?_ _|refine keep_trans ?_ (by assumption)))⟩)))
   refine wpS_late _ _ _ rfl ?_
   dsimp only[List.map]
   go_wp2
   refine NoPanic.normal ?_
   go_upto_region 27 with (first|(go_at_call 80;(with_reducible refine (A1.out _ (by (repeat (first|assumption|exact Below.refl _ _|refine keep_drew ?_|refine keep_alloc ?_ _|refine keep_trans ?_ (by assumption))))).mono ?_);rintro _ _ ⟨rfl,rfl⟩)|(go_at_call 80;(with_reducible refine (A2.out _ (by (repeat (first|assumption|exact Below.refl _ _|refine keep_drew ?_|refine keep_alloc ?_ _|refine keep_trans ?_ (by assumption))))).mono ?_);rintro _ _ ⟨rfl,rfl⟩)|(go_at_call 80;(with_reducible refine (A3.out _ (by (repeat (first|assumption|exact Below.refl _ _|refine keep_drew ?_|refine keep_alloc ?_ _|refine keep_trans ?_ (by assumption))))).mono ?_);rintro _ _ ⟨rfl,rfl⟩)|(go_at_call 80;(with_reducible refine (A4.out _ (by (repeat (first|assumption|exact Below.refl _ _|refine keep_drew ?_|refine keep_alloc ?_ _|refine keep_trans ?_ (by assumption))))).mono ?_);rintro _ _ ⟨rfl,rfl⟩)|(go_at_call 80;(with_reducible refine (A5.out _ (by (repeat (first|assumption|exact Below.refl _ _|refine keep_drew ?_|refine keep_alloc ?_ _|refine keep_trans ?_ (by assumption))))).mono ?_);rintro _ _ ⟨rfl,rfl⟩)|(go_at_call 80;(with_reducible refine (A6.out _ (by (repeat (first|assumption|exact Below.refl _ _|refine keep_drew ?_|refine keep_alloc ?_ _|refine keep_trans ?_ (by assumption))))).mono ?_);rintro _ _ ⟨rfl,rfl⟩)|(go_at_call 80;(with_reducible refine (A7.out _ (by (repeat (first|assumption|exact Below.refl _ _|refine keep_drew ?_|refine keep_alloc ?_ _|refine keep_trans ?_ (by assumption))))).mono ?_);rintro _ _ ⟨rfl,rfl⟩)|(go_at_call 81;(with_reducible refine (T1.out _ (by (repeat (first|assumption|exact Below.refl _ _|refine keep_drew ?_|refine keep_alloc ?_ _|refine keep_trans ?_ (by assumption))))).mono ?_);rintro _ _ ⟨rfl,rfl⟩)|(go_at_call 81;(with_reducible refine (T2.out _ (by (repeat (first|assumption|exact Below.refl _ _|refine keep_drew ?_|refine keep_alloc ?_ _|refine keep_trans ?_ (by assumption))))).mono ?_);rintro _ _ ⟨rfl,rfl⟩)|(go_at_call 81;(with_reducible refine (T3.out _ (by (repeat (first|assumption|exact Below.refl _ _|refine keep_drew ?_|refine keep_alloc ?_ _|refine keep_trans ?_ (by assumption))))).mono ?_);rintro _ _ ⟨rfl,rfl⟩)|(go_at_call 81;(with_reducible refine (T4.out _ (by (repeat (first|assumption|exact Below.refl _ _|refine keep_drew ?_|refine keep_alloc ?_ _|refine keep_trans ?_ (by assumption))))).mono ?_);rintro _ _ ⟨rfl,rfl⟩)|(go_at_call 81;(with_reducible refine (T5.out _ (by (repeat (first|assumption|exact Below.refl _ _|refine keep_drew ?_|refine keep_alloc ?_ _|refine keep_trans ?_ (by assumption))))).mono ?_);rintro _ _ ⟨rfl,rfl⟩)|(go_at_call 81;(with_reducible refine (T6.out _ (by (repeat (first|assumption|exact Below.refl _ _|refine keep_drew ?_|refine keep_alloc ?_ _|refine keep_trans ?_ (by assumption))))).mono ?_);rintro _ _ ⟨rfl,rfl⟩)|(go_at_call 81;(with_reducible refine (T7.out _ (by (repeat (first|assumption|exact Below.refl _ _|refine keep_drew ?_|refine keep_alloc ?_ _|refine keep_trans ?_ (by assumption))))).mono ?_);rintro _ _ ⟨rfl,rfl⟩)|(go_at_call 81;(with_reducible refine (T8.out _ (by (repeat (first|assumption|exact Below.refl _ _|refine keep_drew ?_|refine keep_alloc ?_ _|refine keep_trans ?_ (by assumption))))).mono ?_);rintro _ _ ⟨rfl,rfl⟩)|(go_at_call 81;(with_reducible refine (T9.out _ (by (repeat (first|assumption|exact Below.refl _ _|refine keep_drew ?_|refine keep_alloc ?_ _|refine keep_trans ?_ (by assumption))))).mono ?_);rintro _ _ ⟨rfl,rfl⟩)|fail)
   clear x0 x1 x2 x3 x4 xl n0 nf nl
   clear A1 A2 A3 A4 A5 A6 A7 T1 T2 T3 T4 T5 T6 T7 T8 T9 HADD eu ev ez ds9 dp9 dq9 dq29 dr9 du hv2 hz2
   obtain ⟨n0,nf,nl⟩:=c1_of Q5.out
   have HINV:Hid (u≠0→∃y,y<N∧tN N u y=1):=fun h=>F.out.inv u hu2 h
   obtain ⟨bu,hbu⟩:∃bu:Nat→Bool,bu=fun m=>((u:Int)==0)||(List.range m).any fun y=>(tN N u y:Int)==1:=⟨_,rfl⟩
   have HB0:Hid (((u:Int)==0)=bu 0):=by unfold Hid;rw[hbu];simp
   have HBS:Hid (∀m,bu (m+1)=(bu m||((tN N u m:Int)==1))):=fun m=>by rw[hbu];simp[List.range_succ,Bool.or_assoc]
   have HBN:Hid (bu N=true):=by
    unfold Hid
    rw[hbu]
    by_cases h0:u=0
    ·simp[h0]
    ·obtain ⟨y,hy,e⟩:=HINV.out h0
     simp only[Bool.or_eq_true,List.any_eq_true,List.mem_range,beq_iff_eq]
     exact .inr ⟨y,hy,by rw[e];rfl⟩
   clear hbu HINV
   go_wp2_with fail
   go_loopw [24,25] (fun s24 s25 wr=>∃m:Nat,m≤N∧s25 = .int .i64 (m:Int)∧s24 = .bool (bu m)∧Hid (Below u6.heap.size u6 wr)) (fun _ s25 _=>N - (intOf s25).toNat)
   case atStart=>exact ⟨0,by omega,rfl,by rw[← HB0.out],(by unfold Hid;(repeat (first|assumption|exact Below.refl _ _|refine keep_drew ?_|refine keep_alloc ?_ _|refine keep_trans ?_ (by assumption))))⟩
   case round =>
    obtain ⟨m,hm,rfl,rfl,hbm⟩:=hrel
    obtain ⟨n0,nf,nl⟩:=c1_of (keepq hbm.out Q5.out)
    by_cases hmn:m<N
    ·have hmi:(m:Int)<(N:Int):=by omega
     have HS:=Lib.hid (HBS.out m)
     have HTW:=Lib.hid (HTIM.out wr hbm.out u m hu2 hmn)
     generalize tN N u m=tv at HS HTW
     cases hb:bu m with
     | true =>
      rw[hb] at HS
      have HS2:Hid (bu (m+1)=true):=by unfold Hid;rw[HS.out];rfl
      clear hb
      go_wp2_with fail
      go_roundw
      case rel=>exact ⟨m+1,by omega,by go_num,by rw[HS2.out],hbm⟩
      case measure=>simp[intOf];omega
     | false =>
      rw[hb] at HS
      have HS2:Hid (bu (m+1)=((tv:Int)==1)):=by unfold Hid;rw[HS.out];rfl
      clear hb
      go_wp2_with (first|(go_at_call 81;(with_reducible refine HTW.out.mono ?_);rintro _ _ ⟨rfl,rfl⟩)|fail)
      go_roundw
      case rel=>exact ⟨m+1,by omega,by go_num,by rw[HS2.out],hbm⟩
      case measure=>simp[intOf];omega
    ·have hmi:¬(m:Int)<(N:Int):=by omega
     have em:m=N:=by omega
     have hbt:bu m=true:=by rw[em];exact HBN.out
     rw[hbt]
     clear em hbt
     clear n0 nf nl
     clear n0 nf nl
     have hbm9:Below u6.heap.size u6 wr:=hbm.out
     have hmv:Below u6.heap.size u6 wr:=hbm9
     replace Q0:=Lib.hid (keepq hmv Q0.out)
     replace Q5:=Lib.hid (keepq hmv Q5.out)
     replace Q12:=Lib.hid (keepq hmv Q12.out)
     replace Q13:=Lib.hid (keepq hmv Q13.out)
     replace IE:=Lib.hid (IE.out.mono hmv)
     replace ID:=Lib.hid (ID.out.mono hmv)
     replace GF:=Lib.hid (GF.out.below hmv)
     replace HB:=Lib.hid (keep_trans HB.out hmv)
     clear hmv hbm9
     obtain ⟨i,hi⟩:∃i,i=X0 % k5:=⟨_,rfl⟩
     obtain ⟨j,hj⟩:∃j,j=X1 % k5:=⟨_,rfl⟩
     have ei:(X0:Int) % (k5:Int)=(i:Int):=by rw[hi];exact (Int.natCast_emod _ _).symm
     have ej:(X1:Int) % (k5:Int)=(j:Int):=by rw[hj];exact (Int.natCast_emod _ _).symm
     have hk51:1≤k5:=by omega
     have hi2:i<k5:=by rw[hi];exact Nat.mod_lt _ (by omega)
     have hj2:j<k5:=by rw[hj];exact Nat.mod_lt _ (by omega)
     have hne5:(k5:Int)≠0:=by omega
     have hiI:(i:Int)<(k5:Int):=by omega
     have hjI:(j:Int)<(k5:Int):=by omega
     clear hi hj
     obtain ⟨gb,go5,rfl⟩:=gl_addr GF.out (by omega)
     obtain ⟨ai,ci,hgi,i0,i1,i2,ii,_⟩:=gl_at GF.out hi2
     obtain ⟨aj,cj,hgj,j0,j1,j2,ij,_⟩:=gl_at GF.out hj2
     have hgl:∀t,t<k5→css[t]?.getD []=famG N (t+1):=fun t ht=>by
      rw[hcs.out,famL_eq,List.getElem?_map,List.getElem?_range (by omega),Option.map_some,Option.getD_some]
     rw[hgl i hi2] at i2 ii
     rw[hgl j hj2] at j2 ij
     have Li:=fam_latin hN16 hfl.out (show 1≤i+1 by omega) (show i+1<N by omega)
     have Lj:=fam_latin hN16 hfl.out (show 1≤j+1 by omega) (show j+1<N by omega)
     have HO:=Lib.hid (fam_ortho hN16 hfl.out (show 1≤i+1 by omega) (show i+1<N by omega) (show 1≤j+1 by omega) (show j+1<N by omega))
     rw[Li.len,HNN.out] at i2 ii
     rw[Lj.len,HNN.out] at j2 ij
     have HLI:=Lib.hid Li
     have HLJ:=Lib.hid Lj
     have II:=Lib.hid ii
     have IJ:=Lib.hid ij
     clear hgl Li Lj ii ij
     generalize famG N (i+1)=gi at HO HLI II
     generalize famG N (j+1)=gj at HO HLJ IJ
     obtain ⟨B2,hB2⟩:∃B2,B2=(meetR gi gj).isNone:=⟨_,rfl⟩
     have HB2:Hid (B2=((i:Int) != (j:Int))):=by
      unfold Hid
      rw[hB2,HO.out]
      by_cases h:i=j
      ·subst h;simp
      ·rw[decide_eq_true (by omega)]
       symm
       simpa using (show ¬(i:Int)=(j:Int) by omega)
     have HOV:Hid (orthV (N:Int) (N:Int) gi (N:Int) (N:Int) gj = .tuple #[.bool B2,.int .i64 0]):=by
      unfold Hid orthV
      rw[if_pos (show twoE (N:Int) (N:Int) gi (N:Int) (N:Int) gj=0 by unfold twoE;rw[lat_sqE HLI.out,lat_sqE HLJ.out,show ((N:Int) != (N:Int))=false by simp];rfl),← hB2]
     have HCI:=Lib.hid (fun W (hb:Below wr.heap.size wr W)=>rcheck_c (N:Int) (N:Int) ai nn ci gi W (II.out.mono hb))
     have HCJ:=Lib.hid (fun W (hb:Below wr.heap.size wr W)=>rcheck_c (N:Int) (N:Int) aj nn cj gj W (IJ.out.mono hb))
     have HOR:=Lib.hid (fun W (hb:Below wr.heap.size wr W)=>orth_c (N:Int) (N:Int) (N:Int) (N:Int) ai nn ci gi aj nn cj gj W (II.out.mono hb) (IJ.out.mono hb))
     rw[lat_sqE HLI.out] at HCI
     rw[lat_sqE HLJ.out] at HCJ
     rw[HOV.out] at HOR
     clear hB2 HO
     obtain ⟨x0,x1,x2,x3,x4,xl⟩:=c5_of Q0.out
     obtain ⟨n0,nf,nl⟩:=c1_of Q5.out
     go_upto_region 32 with fail
     refine wp_region_S (fun w'=>∃u,w'=over (wr) u) [13] [(0,0),(0,1),(0,2),(0,3),(0,4),(0,5),(0,6),(0,7),(0,8),(0,9),(0,10),(0,11),(1,12),(2,13)] (by kernel_rfl) (by kernel_rfl) (by exact ⟨_,below_over (by repeat (first|assumption|exact Below.refl _ _|refine keep_drew ?_|refine keep_alloc ?_ _|refine keep_trans ?_ (by assumption)))⟩) ?_
     dsimp only[pickOps,nthOp]
     repeat (first|(refine wpS_skip rfl (fun K hK=>?_);go_big_quiet_op;refine hK _ ?_;clear hK K)|(refine wpS_quiet rfl rfl (fun K hK=>?_);go_big_quiet_op;refine hK _ ?_;clear hK K)|(refine wpS_loud ?_;go_wp2;refine ⟨?_,?_⟩;focus (exact ⟨_,below_over (by repeat (first|assumption|exact Below.refl _ _|refine keep_drew ?_|refine keep_alloc ?_ _|refine keep_trans ?_ (by assumption)))⟩)))
     refine wpS_late _ _ _ rfl ?_
     dsimp only[List.map]
     go_wp2
     refine NoPanic.normal ?_
     go_upto_region 33 with fail
     go_upto_region 35 with (first|(go_at_call 22;(with_reducible refine (HCI.out _ (by (repeat (first|assumption|exact Below.refl _ _|refine keep_drew ?_|refine keep_alloc ?_ _|refine keep_trans ?_ (by assumption))))).mono ?_);rintro _ f1 ⟨rfl,hbf1⟩;have hkf1:Below wr.heap.size wr f1:=(by (repeat (first|assumption|exact Below.refl _ _|refine keep_drew ?_|refine keep_alloc ?_ _|refine keep_trans ?_ (by assumption))));have ia0:=((hkf1).cell (p:=⟨gb,go5+i*3,none⟩) hgi).trans i0;have ia1:=((hkf1).cell (p:=⟨gb,go5+i*3+1,none⟩) hgi).trans i1;have ia2:=((hkf1).cell (p:=⟨gb,go5+i*3+2,none⟩) hgi).trans i2;have ja0:=((hkf1).cell (p:=⟨gb,go5+j*3,none⟩) hgj).trans j0;have ja1:=((hkf1).cell (p:=⟨gb,go5+j*3+1,none⟩) hgj).trans j1;have ja2:=((hkf1).cell (p:=⟨gb,go5+j*3+2,none⟩) hgj).trans j2)|(go_at_call 22;(with_reducible refine (HCJ.out _ (by (repeat (first|assumption|exact Below.refl _ _|refine keep_drew ?_|refine keep_alloc ?_ _|refine keep_trans ?_ (by assumption))))).mono ?_);rintro _ f2 ⟨rfl,hbf2⟩;have hkf2:Below wr.heap.size wr f2:=(by (repeat (first|assumption|exact Below.refl _ _|refine keep_drew ?_|refine keep_alloc ?_ _|refine keep_trans ?_ (by assumption))));have ib0:=((hkf2).cell (p:=⟨gb,go5+i*3,none⟩) hgi).trans i0;have ib1:=((hkf2).cell (p:=⟨gb,go5+i*3+1,none⟩) hgi).trans i1;have ib2:=((hkf2).cell (p:=⟨gb,go5+i*3+2,none⟩) hgi).trans i2;have jb0:=((hkf2).cell (p:=⟨gb,go5+j*3,none⟩) hgj).trans j0;have jb1:=((hkf2).cell (p:=⟨gb,go5+j*3+1,none⟩) hgj).trans j1;have jb2:=((hkf2).cell (p:=⟨gb,go5+j*3+2,none⟩) hgj).trans j2;obtain ⟨n20,n2f,n2l⟩:=c1_of (keepq hkf2 Q5.out);have hgb2:gb<f2.heap.size:=Nat.lt_of_lt_of_le hgi hkf2.size)|fail)
     refine wp_region_S (fun w'=>∃u,w'=over (f2) u) [13] [(0,0),(0,1),(0,2),(0,3),(0,4),(0,5),(0,6),(0,7),(1,8),(0,9),(0,10),(0,11),(1,12),(2,13)] (by kernel_rfl) (by kernel_rfl) (by exact ⟨_,below_over (by repeat (first|assumption|exact Below.refl _ _|refine keep_drew ?_|refine keep_alloc ?_ _|refine keep_trans ?_ (by assumption)))⟩) ?_
     dsimp only[pickOps,nthOp]
     repeat (first|(refine wpS_skip rfl (fun K hK=>?_);go_big_quiet_op;refine hK _ ?_;clear hK K)|(refine wpS_quiet rfl rfl (fun K hK=>?_);go_big_quiet_op;refine hK _ ?_;clear hK K)|(refine wpS_loud ?_;go_wp2_with (first|(go_at_call 45;(with_reducible refine (HOR.out _ (keep_trans hkf2 (by (repeat (first|assumption|exact Below.refl _ _|refine keep_drew ?_|refine keep_alloc ?_ _|refine keep_trans ?_ (by assumption)))))).mono ?_);rintro _ f3 ⟨rfl,hbf3⟩)|fail);refine ⟨?_,?_⟩;focus (exact ⟨_,below_over (by repeat (first|assumption|exact Below.refl _ _|refine keep_drew ?_|refine keep_alloc ?_ _|refine keep_trans ?_ (by assumption)))⟩)))
     refine wpS_late _ _ _ rfl ?_
     dsimp only[List.map]
     go_wp2_with (first|(go_at_call 45;(with_reducible refine (HOR.out _ (keep_trans hkf2 (by (repeat (first|assumption|exact Below.refl _ _|refine keep_drew ?_|refine keep_alloc ?_ _|refine keep_trans ?_ (by assumption)))))).mono ?_);rintro _ f3 ⟨rfl,hbf3⟩)|fail)
     refine NoPanic.normal ?_
     have hkf3:Below wr.heap.size wr f3:=keep_trans hkf2 (by (repeat (first|assumption|exact Below.refl _ _|refine keep_drew ?_|refine keep_alloc ?_ _|refine keep_trans ?_ (by assumption))))
     have hq5:=keepq hkf3 Q5.out
     clear n20 n2f n2l n0 nf nl
     obtain ⟨n0,nf,nl⟩:=c1_of hq5
     cases h9:((i:Int) != (j:Int))
     all_goals
      have hB9:=HB2.out
      rw[h9] at hB9
      subst hB9
     ·go_wp2_with (first|(go_at_call 20;refine (awake4_c _).mono ?_;rintro _ wz ⟨rfl,hbz⟩)|fail)
      refine bodyPost_ret (v := .bool true) ?_ rfl ⟨rfl,keep_trans HB.out (keep_trans hkf3 hbz)⟩
      simp[results,Tryz.f15,go_sem]
     ·go_wp2_with (first|(go_at_call 20;refine (awake4_c _).mono ?_;rintro _ wz ⟨rfl,hbz⟩)|fail)
      refine bodyPost_ret (v := .bool true) ?_ rfl ⟨rfl,keep_trans HB.out (keep_trans hkf3 hbz)⟩
      simp[results,Tryz.f15,go_sem]
end
end Go.Proofs.YtmfpdakaeagdpaaGreat
