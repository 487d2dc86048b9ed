/- Texts J170 to J170 of this proof, in one file. -/
import Derived.Test.YtmfpdakaeagdpaaGreatW01
import Derived.Test.YtmfpdakaeagdpaaGreatW02
import Derived.Test.YtmfpdakaeagdpaaGreatW03
import Derived.Test.YtmfpdakaeagdpaaGreatW04
import Derived.Test.YtmfpdakaeagdpaaGreatW05
import Derived.Test.YtmfpdakaeagdpaaGreatW06
import Derived.Test.YtmfpdakaeagdpaaGreatW07
import Derived.Test.YtmfpdakaeagdpaaGreatW08
import Derived.Test.YtmfpdakaeagdpaaGreatW09
import Derived.Test.YtmfpdakaeagdpaaGreatW10
import Derived.Test.YtmfpdakaeagdpaaGreatW11
import Derived.Test.YtmfpdakaeagdpaaGreatW12
import Derived.Test.YtmfpdakaeagdpaaGreatW13
import Derived.Test.YtmfpdakaeagdpaaGreatW14
import Derived.Test.YtmfpdakaeagdpaaGreatW15
import Derived.Test.YtmfpdakaeagdpaaGreatW16
import Derived.Test.YtmfpdakaeagdpaaGreatW17
import Derived.Test.YtmfpdakaeagdpaaGreatW18
import Derived.Test.YtmfpdakaeagdpaaGreatW19
import Derived.Test.YtmfpdakaeagdpaaGreatW20
import Derived.Test.YtmfpdakaeagdpaaGreatW21
import Derived.Test.YtmfpdakaeagdpaaGreatW22
import Derived.Test.YtmfpdakaeagdpaaGreatW23
import Derived.Test.YtmfpdakaeagdpaaGreatW24
import Derived.Test.YtmfpdakaeagdpaaGreatW25
import Derived.Test.YtmfpdakaeagdpaaGreatW26
import Derived.Test.YtmfpdakaeagdpaaGreatW27
import Derived.Test.YtmfpdakaeagdpaaGreatX32n01
import Derived.Test.YtmfpdakaeagdpaaGreatX32n02
import Derived.Test.YtmfpdakaeagdpaaGreatX32n03
import Derived.Below
import Derived.BigFrame
import Derived.BigQuiet
import Derived.Deep.CutBlock
import Derived.Deep.CutRange
import Derived.Deep.LoopGhost
import Derived.Deep.Quiet
import Derived.Deep.RegionHeld3
import Derived.DeepKeys4
import Derived.KernelRfl
import Derived.Laws.BitsAllLaws
import Derived.Laws.EntriesVeiled
import Derived.Lib.AppendZeros
import Derived.Lib.Hide
import Derived.Lib.SlKeysI
import Derived.Lib.SliceRun
import Derived.LoopIn
import Derived.LoopNIn
import Derived.Maps.AppendAt
import Derived.Maps.OwnIn
import Derived.Maps.OwnSet
import Derived.OneCell
import Derived.OrdersHeld
import Derived.OrdersIn
import Derived.OwnWalkIn
import Derived.RangeFuncBound
import Derived.RangeFuncBox
import Derived.RangeFuncCalls
import Derived.RangeFuncLeaves
import Derived.RangeFuncNested
import Derived.RangeFuncWrites
import Derived.Shelf.Abstract
import Derived.Shelf.SortM.Plain
import Derived.Still
import Derived.TacticsIn
import Derived.TacticsInMore
import Derived.Test.YtmfpdakaeagdpaaGreatProg
import Derived.WalkKit
import Derived.WalkLawsBesides
import Derived.WalkSpells
import Derived.WideKeyPair
namespace Go.Proofs.YtmfpdakaeagdpaaGreat
set_option maxRecDepth 100000
set_option maxHeartbeats 16000000
section
open Go Go.RowKit
attribute [local go_sem] over_cell
attribute [local go_sem] Oper.semAt_some
theorem c5_of {w:World} {b:Nat} {v0 v1 v2 v3 v4:Value} {T:TypeId} (h:w.heap[b]?=some (.cells #[v0,v1,v2,v3,v4] T (0,0))):w.cell? ⟨b,0,none⟩=some v0∧w.cell? ⟨b,1,none⟩=some v1∧w.cell? ⟨b,2,none⟩=some v2∧w.cell? ⟨b,3,none⟩=some v3∧w.cell? ⟨b,4,none⟩=some v4∧b<w.heap.size:=⟨q_cell h 0,q_cell h 1,q_cell h 2,q_cell h 3,q_cell h 4,q_lt h⟩
@[reducible] def clo (f b1 b5:Nat) (x y z:Int) (W:World):Prop:=Calls Tryz.prog f #[.int .i64 x,.int .i64 y,.pointer (some ⟨b1,0,none⟩),.pointer (some ⟨b5,0,none⟩)] W fun e w'=>e = .returned (.int .i64 z)∧W=w'
theorem lfc1_c (N x y b1 b5:Nat) (R:Int) (a:Option Addr) (n c:Nat) (xs:List Int) (hN:N≤16) (hx:x<N) (hy:y<N) (hn:N*N≤n) (z:Int) (hz:xs[x*N+y]?.getD 0=z) (W:World) (q1:W.heap[b1]?=some (.cells #[.int .i64 R,.int .i64 R,.slice a n c] 24 (0,0))) (q5:W.heap[b5]?=some (.cells #[.int .i64 (N:Int)] 3 (0,0))) (hi:IC W a n xs):clo 80 b1 b5 (x:Int) (y:Int) z W:=by
 have hlt:=gcell_lt hx hy
 have hm:=Nat.mul_le_mul hN hN
 obtain ⟨b,off,rfl,hbl,hc⟩:=hi.2 (x*N+y) (by omega)
 rw[hz] at hc
 obtain ⟨e,he⟩:∃e,e=x*N+y:=⟨_,rfl⟩
 obtain ⟨d,hd⟩:∃d,d=x*N:=⟨_,rfl⟩
 have hd1:(x:Int)*(N:Int)=(d:Int):=by rw[hd,Int.natCast_mul]
 have hd2:(d:Int)+(y:Int)=(e:Int):=by rw[he,hd,Int.natCast_add]
 have hen:(e:Int)<(n:Int):=by omega
 have hd3:d≤256:=by omega
 rw[← he] at hc
 clear he hd hz hlt
 obtain ⟨p0,p1,p2,pl⟩:=c3_of q1
 obtain ⟨s0,sf,sl⟩:=c1_of q5
 go_enter Tryz.func80,Tryz.ntmps80
 go_wp2_with fail
 refine bodyPost_ret (v := .int .i64 z) ?_ rfl ⟨rfl,rfl⟩
 simp[results,Tryz.f80,go_sem]
theorem lfc2_c (N x y b1 b5:Nat) (R:Int) (a:Option Addr) (n c:Nat) (xs:List Int) (hN:N≤16) (hx:x<N) (hy:y<N) (hn:N*N≤n) (z:Int) (hz:xs[x*N+y]?.getD 0=z) (W:World) (q1:W.heap[b1]?=some (.cells #[.int .i64 R,.int .i64 R,.slice a n c] 24 (0,0))) (q5:W.heap[b5]?=some (.cells #[.int .i64 (N:Int)] 3 (0,0))) (hi:IC W a n xs):clo 81 b1 b5 (x:Int) (y:Int) z W:=by
 have hlt:=gcell_lt hx hy
 have hm:=Nat.mul_le_mul hN hN
 obtain ⟨b,off,rfl,hbl,hc⟩:=hi.2 (x*N+y) (by omega)
 rw[hz] at hc
 obtain ⟨e,he⟩:∃e,e=x*N+y:=⟨_,rfl⟩
 obtain ⟨d,hd⟩:∃d,d=x*N:=⟨_,rfl⟩
 have hd1:(x:Int)*(N:Int)=(d:Int):=by rw[hd,Int.natCast_mul]
 have hd2:(d:Int)+(y:Int)=(e:Int):=by rw[he,hd,Int.natCast_add]
 have hen:(e:Int)<(n:Int):=by omega
 have hd3:d≤256:=by omega
 rw[← he] at hc
 clear he hd hz hlt
 obtain ⟨p0,p1,p2,pl⟩:=c3_of q1
 obtain ⟨s0,sf,sl⟩:=c1_of q5
 go_enter Tryz.func81,Tryz.ntmps81
 go_wp2_with fail
 refine bodyPost_ret (v := .int .i64 z) ?_ rfl ⟨rfl,rfl⟩
 simp[results,Tryz.f81,go_sem]
theorem lfam_N (O X0 X1 X2 X3 X4:Nat) (w:World) (hX:X0≤255∧X1≤255∧X2≤255∧X3≤255∧X4≤255) (N Mo:Nat) (hO:O≤255) (hM:(O:Int) % 16=(Mo:Int)) (hN:1+(Mo:Int)=(N:Int)) (_hN16:N≤16) (R2:Int) (k2:Nat) (Y2:List Int) (er2:Int) (her2:er2=0∨er2=18) (k1:Nat) (Y1:List Int) (B:Bool) (pD gD:Int) (hB:er2=0→B=(gD==1)) (R3:Int) (k3 k4:Nat) (Y3 Y4:List Int) (er3:Int) (k5 NN:Nat) (css:List (List Int)) (er5:Int) (he3:er3=15) (he5:er5=15)
  (H1:tG w 54 #[.int .i64 (N:Int)] (N:Int) k1 Y1 0) (H2:tG w 55 #[.int .i64 (N:Int),.int .i64 (X3:Int),.int .i64 (X4:Int)] R2 k2 Y2 er2) (HC1:∀W a c,IC W a k1 Y1→Calls Tryz.prog 22 #[.agg #[.int .i64 (N:Int),.int .i64 (N:Int),.slice a k1 c]] W fun e w'=>e = .returned (.int .i64 0)∧Below W.heap.size W w') (HO1:er2=0→∀W a c a2 c2,IC W a k2 Y2→IC W a2 k1 Y1→Calls Tryz.prog 45 #[.agg #[.int .i64 R2,.int .i64 R2,.slice a k2 c],.agg #[.int .i64 (N:Int),.int .i64 (N:Int),.slice a2 k1 c2]] W fun e w'=>e = .returned (.tuple #[.bool B,.int .i64 0])∧Below W.heap.size W w') (HM:∀W,Calls Tryz.prog 62 #[.int .i64 ((X3:Int) - (X4:Int)),.int .i64 (N:Int)] W fun e w'=>e = .returned (.int .i64 pD)∧W=w') (HG:tH w 61 #[.int .i64 pD,.int .i64 (N:Int)] (.int .i64 gD)) (H3:tF w (N:Int) R3 k3 k4 Y3 Y4 er3) (H4:tL w (N:Int) k5 NN css er5) (HF:tH w 63 #[.int .i64 (N:Int)] (.bool false)):Calls Tryz.prog 15 #[.int .u8 (O:Int),.agg #[.int .u8 (X0:Int),.int .u8 (X1:Int),.int .u8 (X2:Int),.int .u8 (X3:Int),.int .u8 (X4:Int)]] w fun e w'=>e = .returned (.bool true)∧Below w.heap.size w w':=by
 subst he3 he5
 obtain ⟨x0b,x1b,x2b,x3b,x4b⟩:=hX
 replace H1:=Lib.hid H1
 replace H2:=Lib.hid H2
 replace HC1:=Lib.hid HC1
 replace HO1:=Lib.hid HO1
 replace HM:=Lib.hid HM
 replace HG:=Lib.hid HG
 replace H3:=Lib.hid H3
 replace H4:=Lib.hid H4
 replace HF:=Lib.hid HF
 replace hB:=Lib.hid hB
 replace her2:=Lib.hid her2
 go_enter Tryz.func15,Tryz.ntmps15
 go_upto_region 1 with fail
 have fsz:(w.alloc (.cells #[.int .u8 (X0:Int),.int .u8 (X1:Int),.int .u8 (X2:Int),.int .u8 (X3:Int),.int .u8 (X4:Int)] 92)).heap.size=w.heap.size+1:=by simp only[World.size_alloc]
 have fB:Below w.heap.size w (w.alloc (.cells #[.int .u8 (X0:Int),.int .u8 (X1:Int),.int .u8 (X2:Int),.int .u8 (X3:Int),.int .u8 (X4:Int)] 92)):=(Below.refl _ _).alloc (Nat.le_refl _) _
 have fq0:(w.alloc (.cells #[.int .u8 (X0:Int),.int .u8 (X1:Int),.int .u8 (X2:Int),.int .u8 (X3:Int),.int .u8 (X4:Int)] 92)).heap[w.heap.size]?=some (.cells #[.int .u8 (X0:Int),.int .u8 (X1:Int),.int .u8 (X2:Int),.int .u8 (X3:Int),.int .u8 (X4:Int)] 92 (0,0)):=by have h:=World.alloc_heap_new w (.cells #[.int .u8 (X0:Int),.int .u8 (X1:Int),.int .u8 (X2:Int),.int .u8 (X3:Int),.int .u8 (X4:Int)] 92);exact h
 generalize (w.alloc (.cells #[.int .u8 (X0:Int),.int .u8 (X1:Int),.int .u8 (X2:Int),.int .u8 (X3:Int),.int .u8 (X4:Int)] 92))=W0 at fsz fB fq0 ⊢
 have Q0:=Lib.hid fq0
 have HB:=Lib.hid fB
 clear fq0 fsz fB
 go_upto_region 2 with fail
 have gsz:(W0.alloc (.cells #[.int .i64 (N:Int)] 3)).heap.size=W0.heap.size+1:=by simp only[World.size_alloc]
 have gB:Below W0.heap.size W0 (W0.alloc (.cells #[.int .i64 (N:Int)] 3)):=(Below.refl _ _).alloc (Nat.le_refl _) _
 have gq0:(W0.alloc (.cells #[.int .i64 (N:Int)] 3)).heap[W0.heap.size]?=some (.cells #[.int .i64 (N:Int)] 3 (0,0)):=by have h:=World.alloc_heap_new W0 (.cells #[.int .i64 (N:Int)] 3);exact h
 generalize (W0.alloc (.cells #[.int .i64 (N:Int)] 3))=V1 at gsz gB gq0 ⊢
 have hmv:Below W0.heap.size W0 V1:=gB
 replace Q0:=Lib.hid (keepq hmv Q0.out)
 replace HB:=Lib.hid (keep_trans HB.out hmv)
 clear hmv
 have Q5:=Lib.hid gq0
 clear gsz gq0 gB hM hN hO
 obtain ⟨x0,x1,x2,x3,x4,xl⟩:=c5_of Q0.out
 obtain ⟨n0,nf,nl⟩:=c1_of Q5.out
 go_upto_region 3 with (first|(go_at_call 55;(with_reducible refine (H2.out _ HB.out).mono ?_);rintro _ u2 ⟨a2,c2,rfl,il,hbu2⟩)|fail)
 have hsz:(u2.alloc (.cells #[.int .i64 R2,.int .i64 R2,.slice a2 k2 c2] 24)).heap.size=u2.heap.size+1:=by simp only[World.size_alloc]
 have hB:Below u2.heap.size u2 (u2.alloc (.cells #[.int .i64 R2,.int .i64 R2,.slice a2 k2 c2] 24)):=(Below.refl _ _).alloc (Nat.le_refl _) _
 have hq0:(u2.alloc (.cells #[.int .i64 R2,.int .i64 R2,.slice a2 k2 c2] 24)).heap[u2.heap.size]?=some (.cells #[.int .i64 R2,.int .i64 R2,.slice a2 k2 c2] 24 (0,0)):=by have h:=World.alloc_heap_new u2 (.cells #[.int .i64 R2,.int .i64 R2,.slice a2 k2 c2] 24);exact h
 generalize (u2.alloc (.cells #[.int .i64 R2,.int .i64 R2,.slice a2 k2 c2] 24))=V2 at hsz hB hq0 ⊢
 clear x0 x1 x2 x3 x4 xl n0 nf nl
 have hmv:Below V1.heap.size V1 V2:=keep_trans hbu2 hB
 replace Q0:=Lib.hid (keepq hmv Q0.out)
 replace Q5:=Lib.hid (keepq hmv Q5.out)
 replace HB:=Lib.hid (keep_trans HB.out hmv)
 clear hmv
 have Q6:=Lib.hid hq0
 have IL:=Lib.hid (il.mono hB)
 clear hbu2 hsz hq0 hB il
 obtain ⟨n0,nf,nl⟩:=c1_of Q5.out
 go_upto_region 4 with (first|(go_at_call 54;(with_reducible refine (H1.out _ HB.out).mono ?_);rintro _ u1 ⟨a1,c1,rfl,iy,hbu1⟩)|fail)
 have gsz:(u1.alloc (.cells #[.int .i64 (N:Int),.int .i64 (N:Int),.slice a1 k1 c1] 24)).heap.size=u1.heap.size+1:=by simp only[World.size_alloc]
 have gB:Below u1.heap.size u1 (u1.alloc (.cells #[.int .i64 (N:Int),.int .i64 (N:Int),.slice a1 k1 c1] 24)):=(Below.refl _ _).alloc (Nat.le_refl _) _
 have gq0:(u1.alloc (.cells #[.int .i64 (N:Int),.int .i64 (N:Int),.slice a1 k1 c1] 24)).heap[u1.heap.size]?=some (.cells #[.int .i64 (N:Int),.int .i64 (N:Int),.slice a1 k1 c1] 24 (0,0)):=by have h:=World.alloc_heap_new u1 (.cells #[.int .i64 (N:Int),.int .i64 (N:Int),.slice a1 k1 c1] 24);exact h
 generalize (u1.alloc (.cells #[.int .i64 (N:Int),.int .i64 (N:Int),.slice a1 k1 c1] 24))=V3 at gsz gB gq0 ⊢
 clear n0 nf nl
 have hmv:Below V2.heap.size V2 V3:=keep_trans hbu1 gB
 replace Q0:=Lib.hid (keepq hmv Q0.out)
 replace Q5:=Lib.hid (keepq hmv Q5.out)
 replace Q6:=Lib.hid (keepq hmv Q6.out)
 replace IL:=Lib.hid (IL.out.mono hmv)
 replace HB:=Lib.hid (keep_trans HB.out hmv)
 clear hmv
 have Q8:=Lib.hid gq0
 have IY:=Lib.hid (iy.mono gB)
 clear hbu1 gsz gq0 gB iy
 obtain ⟨n0,nf,nl⟩:=c1_of Q5.out
 obtain ⟨q0,q1,q2,ql⟩:=c3_of Q8.out
 have dN:((N:Int) != (N:Int))=false:=by simp
 go_cut [70] from 30 to 96 (fun s70 wx=>s70 = .bool false∧Hid (Below V3.heap.size V3 wx))
 case first =>
  rcases her2.out with rfl|rfl
  ·go_wp2_with (first|(go_at_call 22;(with_reducible refine (HC1.out _ _ _ IY.out).mono ?_);rintro _ t1 ⟨rfl,hbt1⟩;have hkt1:Below V3.heap.size V3 t1:=hbt1;obtain ⟨nt10,nt1f,nt1l⟩:=c1_of (keepq hkt1 Q5.out);obtain ⟨qt10,qt11,qt12,qt1l⟩:=c3_of (keepq hkt1 Q8.out))|fail)
   go_meet
   case rel=>exact ⟨rfl,hbt1⟩
  ·go_wp2_with (first|(go_at_call 22;(with_reducible refine (HC1.out _ _ _ IY.out).mono ?_);rintro _ t1 ⟨rfl,hbt1⟩;have hkt1:Below V3.heap.size V3 t1:=hbt1;obtain ⟨nt10,nt1f,nt1l⟩:=c1_of (keepq hkt1 Q5.out);obtain ⟨qt10,qt11,qt12,qt1l⟩:=c3_of (keepq hkt1 Q8.out))|fail)
   go_meet
   case rel=>exact ⟨rfl,hbt1⟩
 obtain ⟨rfl,hbc⟩:=hcut
 rename World=>wA
 clear dN
 clear n0 nf nl q0 q1 q2 ql
 have hmv:Below V3.heap.size V3 wA:=hbc.out
 replace Q0:=Lib.hid (keepq hmv Q0.out)
 replace Q5:=Lib.hid (keepq hmv Q5.out)
 replace Q6:=Lib.hid (keepq hmv Q6.out)
 replace Q8:=Lib.hid (keepq hmv Q8.out)
 replace IL:=Lib.hid (IL.out.mono hmv)
 replace IY:=Lib.hid (IY.out.mono hmv)
 replace HB:=Lib.hid (keep_trans HB.out hmv)
 clear hmv hbc
 obtain ⟨x0,x1,x2,x3,x4,xl⟩:=c5_of Q0.out
 obtain ⟨n0,nf,nl⟩:=c1_of Q5.out
 obtain ⟨p0,p1,p2,pl⟩:=c3_of Q6.out
 obtain ⟨q0,q1,q2,ql⟩:=c3_of Q8.out
 go_upto_if 72 with (fail)
 go_cut [10,11] from 30 to 96 (fun _ _ wx=>Hid (Below wA.heap.size wA wx))
 case first =>
  rcases her2.out with rfl|rfl
  ·have hB0:=hB.out rfl
   cases h9:(gD==1)
   all_goals
    rw[h9] at hB0
    subst hB0
   ·go_upto_region 8 with (first|(go_at_call 45;(with_reducible refine ((HO1.out rfl) _ _ _ _ _ IL.out IY.out).mono ?_);rintro _ r1 ⟨rfl,hbr1⟩;have hkr1:Below wA.heap.size wA r1:=hbr1;obtain ⟨xr10,xr11,xr12,xr13,xr14,xr1l⟩:=c5_of (keepq hkr1 Q0.out);obtain ⟨nr10,nr1f,nr1l⟩:=c1_of (keepq hkr1 Q5.out))|fail)
    refine wp_region_S (fun w'=>∃u,w'=over (r1) u) [] [(0,0),(0,1),(0,2),(0,3),(0,4),(0,5),(0,6),(0,7),(0,8),(0,9),(0,10),(0,11),(0,13),(1,12),(1,14),(0,15),(0,16),(0,17)] (by kernel_rfl) (by kernel_rfl) (by exact ⟨_,below_over (by repeat (first|assumption|exact Below.refl _ _|refine keep_drew ?_|refine keep_alloc ?_ _|refine keep_trans ?_ (by assumption)))⟩) ?_
    dsimp only[pickOps,nthOp]
    repeat (first|(refine wpS_skip rfl (fun K hK=>?_);go_big_quiet_op;refine hK _ ?_;clear hK K)|(refine wpS_quiet rfl rfl (fun K hK=>?_);go_big_quiet_op;refine hK _ ?_;clear hK K)|(refine wpS_loud ?_;go_wp2_with (first|(go_at_call 62;(with_reducible refine (HM.out _).mono ?_);rintro _ _ ⟨rfl,rfl⟩)|(go_at_call 61;(with_reducible refine (HG.out _ (keep_trans HB.out (keep_trans hkr1 (by (repeat (first|assumption|exact Below.refl _ _|refine keep_drew ?_|refine keep_alloc ?_ _|refine keep_trans ?_ (by assumption))))))).mono ?_);rintro _ r2 ⟨rfl,hbr2⟩)|fail);refine ⟨?_,?_⟩;focus (exact ⟨_,below_over (by repeat (first|assumption|exact Below.refl _ _|refine keep_drew ?_|refine keep_alloc ?_ _|refine keep_trans ?_ (by assumption)))⟩)))
    refine wpS_end ?_
    have hbf:Below wA.heap.size wA r2:=keep_trans hkr1 (by (repeat (first|assumption|exact Below.refl _ _|refine keep_drew ?_|refine keep_alloc ?_ _|refine keep_trans ?_ (by assumption))))
    go_wp2_with fail
    go_meet
    case rel=>exact hbf
   ·go_upto_region 8 with (first|(go_at_call 45;(with_reducible refine ((HO1.out rfl) _ _ _ _ _ IL.out IY.out).mono ?_);rintro _ r1 ⟨rfl,hbr1⟩;have hkr1:Below wA.heap.size wA r1:=hbr1;obtain ⟨xr10,xr11,xr12,xr13,xr14,xr1l⟩:=c5_of (keepq hkr1 Q0.out);obtain ⟨nr10,nr1f,nr1l⟩:=c1_of (keepq hkr1 Q5.out))|fail)
    refine wp_region_S (fun w'=>∃u,w'=over (r1) u) [] [(0,0),(0,1),(0,2),(0,3),(0,4),(0,5),(0,6),(0,7),(0,8),(0,9),(0,10),(0,11),(0,13),(1,12),(1,14),(0,15),(0,16),(0,17)] (by kernel_rfl) (by kernel_rfl) (by exact ⟨_,below_over (by repeat (first|assumption|exact Below.refl _ _|refine keep_drew ?_|refine keep_alloc ?_ _|refine keep_trans ?_ (by assumption)))⟩) ?_
    dsimp only[pickOps,nthOp]
    repeat (first|(refine wpS_skip rfl (fun K hK=>?_);go_big_quiet_op;refine hK _ ?_;clear hK K)|(refine wpS_quiet rfl rfl (fun K hK=>?_);go_big_quiet_op;refine hK _ ?_;clear hK K)|(refine wpS_loud ?_;go_wp2_with (first|(go_at_call 62;(with_reducible refine (HM.out _).mono ?_);rintro _ _ ⟨rfl,rfl⟩)|(go_at_call 61;(with_reducible refine (HG.out _ (keep_trans HB.out (keep_trans hkr1 (by (repeat (first|assumption|exact Below.refl _ _|refine keep_drew ?_|refine keep_alloc ?_ _|refine keep_trans ?_ (by assumption))))))).mono ?_);rintro _ r2 ⟨rfl,hbr2⟩)|fail);refine ⟨?_,?_⟩;focus (exact ⟨_,below_over (by repeat (first|assumption|exact Below.refl _ _|refine keep_drew ?_|refine keep_alloc ?_ _|refine keep_trans ?_ (by assumption)))⟩)))
    refine wpS_end ?_
    have hbf:Below wA.heap.size wA r2:=keep_trans hkr1 (by (repeat (first|assumption|exact Below.refl _ _|refine keep_drew ?_|refine keep_alloc ?_ _|refine keep_trans ?_ (by assumption))))
    go_wp2_with fail
    go_meet
    case rel=>exact hbf
  ·go_wp2_with fail
   go_meet
   case rel=>exact Below.refl _ _
 have hbc:=hcut
 rename World=>wD
 clear x0 x1 x2 x3 x4 xl n0 nf nl p0 p1 p2 pl q0 q1 q2 ql
 have hmv:Below wA.heap.size wA wD:=hbc.out
 replace Q0:=Lib.hid (keepq hmv Q0.out)
 replace Q5:=Lib.hid (keepq hmv Q5.out)
 replace Q6:=Lib.hid (keepq hmv Q6.out)
 replace Q8:=Lib.hid (keepq hmv Q8.out)
 replace IL:=Lib.hid (IL.out.mono hmv)
 replace IY:=Lib.hid (IY.out.mono hmv)
 replace HB:=Lib.hid (keep_trans HB.out hmv)
 clear hmv hbc
 clear Q6 Q8 IL IY H1 H2 HC1 HO1 HM HG hB her2
 obtain ⟨n0,nf,nl⟩:=c1_of Q5.out
 go_upto_region 11 with (first|(go_at_call 56;(with_reducible refine (H3.out _ HB.out).mono ?_);rintro _ u3 ⟨a3,c3,a4,c4,rfl,ic3,id4,hbu3⟩)|fail)
 have gsz:((u3.alloc (.cells #[.int .i64 R3,.int .i64 R3,.slice a3 k3 c3] 24)).alloc (.cells #[.int .i64 R3,.int .i64 R3,.slice a4 k4 c4] 24)).heap.size=u3.heap.size+2:=by simp only[World.size_alloc] <;> omega
 have gB:Below u3.heap.size u3 ((u3.alloc (.cells #[.int .i64 R3,.int .i64 R3,.slice a3 k3 c3] 24)).alloc (.cells #[.int .i64 R3,.int .i64 R3,.slice a4 k4 c4] 24)):=((Below.refl _ _).alloc (Nat.le_refl _) _).alloc (by simp only[World.size_alloc];omega) _
 have gq0:((u3.alloc (.cells #[.int .i64 R3,.int .i64 R3,.slice a3 k3 c3] 24)).alloc (.cells #[.int .i64 R3,.int .i64 R3,.slice a4 k4 c4] 24)).heap[u3.heap.size]?=some (.cells #[.int .i64 R3,.int .i64 R3,.slice a3 k3 c3] 24 (0,0)):=by have h:=World.alloc_heap_new u3 (.cells #[.int .i64 R3,.int .i64 R3,.slice a3 k3 c3] 24);exact (Below.heap_alloc _ _ _ (by simp only[World.size_alloc];omega)).trans (h)
 have gq1:((u3.alloc (.cells #[.int .i64 R3,.int .i64 R3,.slice a3 k3 c3] 24)).alloc (.cells #[.int .i64 R3,.int .i64 R3,.slice a4 k4 c4] 24)).heap[u3.heap.size+1]?=some (.cells #[.int .i64 R3,.int .i64 R3,.slice a4 k4 c4] 24 (0,0)):=by have h:=World.alloc_heap_new (u3.alloc (.cells #[.int .i64 R3,.int .i64 R3,.slice a3 k3 c3] 24)) (.cells #[.int .i64 R3,.int .i64 R3,.slice a4 k4 c4] 24);simp only[World.size_alloc] at h;exact h
 generalize ((u3.alloc (.cells #[.int .i64 R3,.int .i64 R3,.slice a3 k3 c3] 24)).alloc (.cells #[.int .i64 R3,.int .i64 R3,.slice a4 k4 c4] 24))=V5 at gsz gB gq0 gq1 ⊢
 clear n0 nf nl
 have hmv:Below wD.heap.size wD V5:=keep_trans hbu3 gB
 replace Q0:=Lib.hid (keepq hmv Q0.out)
 replace Q5:=Lib.hid (keepq hmv Q5.out)
 replace HB:=Lib.hid (keep_trans HB.out hmv)
 clear hmv
 have Q12:=Lib.hid gq0
 have Q13:=Lib.hid gq1
 have IE:=Lib.hid (ic3.mono gB)
 have ID:=Lib.hid (id4.mono gB)
 clear hbu3 gsz gq0 gq1 gB ic3 id4
 obtain ⟨n0,nf,nl⟩:=c1_of Q5.out
 go_upto_region 12 with (first|(go_at_call 57;(with_reducible refine (H4.out _ HB.out).mono ?_);rintro _ u4 ⟨a5,c5,rfl,gl5,hbu4⟩)|fail)
 clear n0 nf nl
 have hmv:Below V5.heap.size V5 u4:=hbu4
 replace Q0:=Lib.hid (keepq hmv Q0.out)
 replace Q5:=Lib.hid (keepq hmv Q5.out)
 replace Q12:=Lib.hid (keepq hmv Q12.out)
 replace Q13:=Lib.hid (keepq hmv Q13.out)
 replace IE:=Lib.hid (IE.out.mono hmv)
 replace ID:=Lib.hid (ID.out.mono hmv)
 replace HB:=Lib.hid (keep_trans HB.out hmv)
 clear hmv
 have GF:=Lib.hid gl5
 clear hbu4 gl5
 obtain ⟨n0,nf,nl⟩:=c1_of Q5.out
 go_wp2_with (first|(go_at_call 63;(with_reducible refine (HF.out _ HB.out).mono ?_);rintro _ u5 ⟨rfl,hbu5⟩)|(go_at_call 20;refine (awake4_c _).mono ?_;rintro _ wz ⟨rfl,hbz⟩)|fail)
 refine bodyPost_ret (v := .bool true) ?_ rfl ⟨rfl,keep_trans HB.out (keep_trans hbu5 hbz)⟩
 simp[results,Tryz.f15,go_sem]
end
end Go.Proofs.YtmfpdakaeagdpaaGreat
