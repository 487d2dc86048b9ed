/- Texts J56 to J98 of this proof, in one file. -/
import Derived.Test.YtmfpdakaeagdpaaGreatW01
import Derived.Test.YtmfpdakaeagdpaaGreatW02
import Derived.Test.YtmfpdakaeagdpaaGreatW03
import Derived.Test.YtmfpdakaeagdpaaGreatW04
import Derived.Test.YtmfpdakaeagdpaaGreatW05
import Derived.Test.YtmfpdakaeagdpaaGreatW06
import Derived.Test.YtmfpdakaeagdpaaGreatW07
import Derived.Test.YtmfpdakaeagdpaaGreatW08
import Derived.Test.YtmfpdakaeagdpaaGreatW09
import Derived.Test.YtmfpdakaeagdpaaGreatW10
import Derived.Test.YtmfpdakaeagdpaaGreatW11
import Derived.Test.YtmfpdakaeagdpaaGreatW12
import Derived.Test.YtmfpdakaeagdpaaGreatW13
import Derived.Test.YtmfpdakaeagdpaaGreatW14
import Derived.Test.YtmfpdakaeagdpaaGreatW15
import Derived.Test.YtmfpdakaeagdpaaGreatW16
import Derived.Test.YtmfpdakaeagdpaaGreatW17
import Derived.Test.YtmfpdakaeagdpaaGreatW18
import Derived.Test.YtmfpdakaeagdpaaGreatW19
import Derived.Test.YtmfpdakaeagdpaaGreatW20
import Derived.Test.YtmfpdakaeagdpaaGreatW21
import Derived.Test.YtmfpdakaeagdpaaGreatW22
import Derived.Test.YtmfpdakaeagdpaaGreatW23
import Derived.Test.YtmfpdakaeagdpaaGreatW24
import Derived.Test.YtmfpdakaeagdpaaGreatW25
import Derived.Test.YtmfpdakaeagdpaaGreatW26
import Derived.Test.YtmfpdakaeagdpaaGreatW27
import Derived.Test.YtmfpdakaeagdpaaGreatX32n01
import Derived.Below
import Derived.BigFrame
import Derived.BigQuiet
import Derived.Deep.CutBlock
import Derived.Deep.CutRange
import Derived.Deep.LoopGhost
import Derived.Deep.Quiet
import Derived.Deep.RegionHeld3
import Derived.DeepKeys4
import Derived.KernelRfl
import Derived.Laws.BitsAllLaws
import Derived.Laws.EntriesVeiled
import Derived.Lib.Hide
import Derived.Lib.SliceRun
import Derived.LoopIn
import Derived.LoopNIn
import Derived.Maps.AppendAt
import Derived.Maps.OwnIn
import Derived.Maps.OwnSet
import Derived.OneCell
import Derived.OrdersHeld
import Derived.OrdersIn
import Derived.OwnWalkIn
import Derived.RangeFuncBound
import Derived.RangeFuncBox
import Derived.RangeFuncCalls
import Derived.RangeFuncLeaves
import Derived.RangeFuncNested
import Derived.RangeFuncWrites
import Derived.Shelf.Abstract
import Derived.Still
import Derived.TacticsIn
import Derived.TacticsInMore
import Derived.Test.YtmfpdakaeagdpaaGreatProg
import Derived.WalkKit
import Derived.WalkLawsBesides
import Derived.WalkSpells
import Derived.WideKeyPair
namespace Go.Proofs.YtmfpdakaeagdpaaGreat
set_option maxRecDepth 100000
set_option maxHeartbeats 16000000
section
open Go Go.RowKit
attribute [local go_sem] over_cell
attribute [local go_sem] Oper.semAt_some
theorem tmod_small {a b:Int} (hb:b≠0):(a.tmod b).natAbs<b.natAbs:=by
 rw[Int.natAbs_tmod]
 exact Nat.mod_lt _ (by omega)
theorem mulb {a i M:Int} (h : -M≤a∧a≤M) (h0:0≤i) (h1:i≤16) (hM:0≤M) : -(M*16)≤a*i∧a*i≤M*16:=by
 have h2:=Int.mul_le_mul_of_nonneg_right h.2 h0
 have h3:=Int.mul_le_mul_of_nonneg_right h.1 h0
 have h4:=Int.mul_le_mul_of_nonneg_left h1 hM
 rw[Int.neg_mul] at h3
 omega
theorem gcd_c (a b:Int) (w:World) (ha : -1000000000≤a∧a≤1000000000) (hb : -1000000000≤b∧b≤1000000000) :
  Calls Tryz.prog 128 #[.int .i64 a,.int .i64 b] w fun e w'=>e = .returned (.int .i64 ((Int.gcd a b:Nat):Int))∧Below w.heap.size w w':=by
 obtain ⟨G,hG⟩:∃G,G=Int.gcd a b:=⟨_,rfl⟩
 rw[← hG]
 have HG:=Lib.hid hG
 clear hG
 go_enter Tryz.func128,Tryz.ntmps128
 go_wp2
 go_loopw [0,1] (fun x y wr=>∃a' b':Int,x = .int .i64 a'∧y = .int .i64 b'∧(-1000000000≤a'∧a'≤1000000000)∧(-1000000000≤b'∧b'≤1000000000)∧Hid (G=Int.gcd a' b')∧Below w.heap.size w wr) (fun _ y _=>(intOf y).natAbs)
 case atStart=>exact ⟨a,b,rfl,rfl,ha,hb,HG.out,Below.refl _ _⟩
 case round =>
  obtain ⟨a',b',rfl,rfl,ha',hb',hG',hbr⟩:=hrel
  by_cases h0:b'=0
  ·subst h0
   have hz:Hid ((G:Int)=((a'.natAbs:Nat):Int)):=by unfold Hid;rw[hG'.out,Int.gcd_zero_right]
   go_wp2 <;> (go_ret;exact ⟨ret_int (by rw[hz.out];omega),hbr⟩)
  ·have h00:(b'==0)=false:=by simpa using h0
   have hs:=tmod_small (a:=a') h0
   have HT:=Lib.hid (gcd_step a' b')
   go_wp2
   go_region
   go_wp2
   go_roundw
   case rel=>exact ⟨b',a'.tmod b',rfl,rfl,hb',⟨by omega,by omega⟩,by rw[hG'.out];exact HT.out.symm,keep_drew hbr⟩
   case measure=>simpa [intOf] using hs
def farB (x:Int):Bool:=decide (x < -999999999)||decide (999999999<x)
theorem lin1_c (x:Int) (w:World):Calls Tryz.prog 127 #[.int .i64 x] w fun e w'=>e = .returned (.bool (farB x))∧w=w':=by
 by_cases h:x < -999999999
 ·have hd:decide (x < -999999999)=true:=decide_eq_true h
  go_enter Tryz.func127,Tryz.ntmps127
  go_wp2
  go_ret
  exact ⟨by unfold farB;rw[hd];rfl,rfl⟩
 ·have hd:decide (x < -999999999)=false:=decide_eq_false h
  go_enter Tryz.func127,Tryz.ntmps127
  go_wp2
  go_ret
  exact ⟨by unfold farB;rw[hd,Bool.false_or];rfl,rfl⟩
theorem lin2_c (N i j bA bB bN:Nat) (a b:Int) (w:World) (hN1:1≤N) (hN:N≤16) (hi:i<N) (hj:j<N) (ha : -999999999≤a∧a≤999999999) (hb : -999999999≤b∧b≤999999999)
  (hqA:w.heap[bA]?=some (.cells #[.int .i64 a] 3 (0,0))) (hqB:w.heap[bB]?=some (.cells #[.int .i64 b] 3 (0,0))) (hqN:w.heap[bN]?=some (.cells #[.int .i64 (N:Int)] 3 (0,0))) :
  Calls Tryz.prog 129 #[.int .i64 (i:Int),.int .i64 (j:Int),.pointer (some ⟨bA,0,none⟩),.pointer (some ⟨bB,0,none⟩),.pointer (some ⟨bN,0,none⟩)] w fun e w'=>e = .returned (.int .i64 (linS N a b i j))∧Below w.heap.size w w':=by
 obtain ⟨c0,_,hl⟩:=c1_of hqA
 obtain ⟨c1,_,hl1⟩:=c1_of hqB
 obtain ⟨c2,_,hl2⟩:=c1_of hqN
 have h1:=mulb (i:=(i:Int)) ha (by omega) (by omega) (by decide)
 have h2:=mulb (i:=(j:Int)) hb (by omega) (by omega) (by decide)
 have HE:Hid (linS N a b i j=(a*(i:Int)+b*(j:Int)) % (N:Int)):=rfl
 have HC:=Lib.hid (fun x W=>modulo_c x N W hN1 (by omega))
 obtain ⟨p,hp⟩:∃p,p=a*(i:Int):=⟨_,rfl⟩
 obtain ⟨q,hq⟩:∃q,q=b*(j:Int):=⟨_,rfl⟩
 rw[← hp] at h1 HE
 rw[← hq] at h2 HE
 have hp':a*(i:Int)=p:=hp.symm
 have hq':b*(j:Int)=q:=hq.symm
 clear hp hq hqA hqB hqN
 go_enter Tryz.func129,Tryz.ntmps129
 go_wp2_with (first|(go_at_call 123;refine (HC.out _ _).mono ?_;rintro _ w1 ⟨rfl,rfl⟩)|fail)
 go_ret
 exact ⟨ret_int HE.out.symm,Below.refl _ _⟩
theorem enterLin:∀args w,Sem.run Tryz.prog (callFunc 129 args) w = .ok (.enter 129 args) w:=by
 intro args w;kernel_rfl
def linE (n a b:Int):Int:=firstL [ordE n,whenV (farB a||farB b) 3]
def sinB (n a b:Int):Bool:=!decide (Int.gcd a n=1)||!decide (Int.gcd b n=1)
def linEr (n a b:Int):Int:=if linE n a b=0 then (if sinB n a b=true then 18 else 0) else linE n a b
def linL (n a b:Int):List Int:=if linEr n a b=0 then madeTo n.toNat (linS n.toNat a b) (n.toNat*n.toNat) else []
theorem linE_ok {n a b:Int} (h:linE n a b=0):ordE n=0∧farB a=false∧farB b=false:=by
 unfold linE at h
 cases ha:farB a <;> cases hb:farB b <;> rw[ha,hb] at h
 ·refine ⟨?_,rfl,rfl⟩
  by_cases h0:ordE n=0
  ·exact h0
  ·unfold firstL at h;simp[h0] at h
 all_goals
  exfalso
  unfold firstL whenV at h
  by_cases h0:ordE n=0
  ·rw[h0] at h;revert h;decide
  ·simp[h0] at h
theorem farB_num {x:Int} (h:farB x=false) : -999999999≤x∧x≤999999999:=by
 unfold farB at h
 simp only[Bool.or_eq_false_iff,decide_eq_false_iff_not] at h
 omega
theorem linear_bad (n a b:Int) (w:World) (fa fb:Bool) (hfa:farB a=fa) (hfb:farB b=fb) (er:Int) (h0:er≠0) (hE:firstL [ordE n,whenV (fa||fb) 3]=er):Calls Tryz.prog 55 #[.int .i64 n,.int .i64 a,.int .i64 b] w (GridE w 0 0 [] er):=by
 have HO:=Lib.hid (fun W=>corder_c n W)
 have HA:=Lib.hid (fun W=>lin1_c a W)
 have HB:=Lib.hid (fun W=>lin1_c b W)
 rw[hfa] at HA
 rw[hfb] at HB
 have h0':(er != 0)=true:=by simpa using h0
 clear h0 hfa hfb
 cases fa
 ·rw[Bool.false_or] at hE
  have HF:=Lib.hid hE
  clear hE
  go_enter Tryz.func55,Tryz.ntmps55
  go_upto_region 2 with fail
  have fsz:((((w.alloc (.cells #[.int .i64 n] 3)).alloc (.cells #[.int .i64 a] 3)).alloc (.cells #[.int .i64 b] 3)).alloc (.cells #[.int .i64 0,.int .i64 0,.slice none 0 0] 24)).heap.size=w.heap.size+4:=by simp only[World.size_alloc] <;> omega
  have fB:Below w.heap.size w ((((w.alloc (.cells #[.int .i64 n] 3)).alloc (.cells #[.int .i64 a] 3)).alloc (.cells #[.int .i64 b] 3)).alloc (.cells #[.int .i64 0,.int .i64 0,.slice none 0 0] 24)):=((((Below.refl _ _).alloc (Nat.le_refl _) _).alloc (by simp only[World.size_alloc];omega) _).alloc (by simp only[World.size_alloc];omega) _).alloc (by simp only[World.size_alloc];omega) _
  have fq0:((((w.alloc (.cells #[.int .i64 n] 3)).alloc (.cells #[.int .i64 a] 3)).alloc (.cells #[.int .i64 b] 3)).alloc (.cells #[.int .i64 0,.int .i64 0,.slice none 0 0] 24)).heap[w.heap.size]?=some (.cells #[.int .i64 n] 3 (0,0)):=by have h:=World.alloc_heap_new w (.cells #[.int .i64 n] 3);exact (Below.heap_alloc _ _ _ (by simp only[World.size_alloc];omega)).trans ((Below.heap_alloc _ _ _ (by simp only[World.size_alloc];omega)).trans ((Below.heap_alloc _ _ _ (by simp only[World.size_alloc];omega)).trans (h)))
  have fq1:((((w.alloc (.cells #[.int .i64 n] 3)).alloc (.cells #[.int .i64 a] 3)).alloc (.cells #[.int .i64 b] 3)).alloc (.cells #[.int .i64 0,.int .i64 0,.slice none 0 0] 24)).heap[w.heap.size+1]?=some (.cells #[.int .i64 a] 3 (0,0)):=by have h:=World.alloc_heap_new (w.alloc (.cells #[.int .i64 n] 3)) (.cells #[.int .i64 a] 3);simp only[World.size_alloc] at h;exact (Below.heap_alloc _ _ _ (by simp only[World.size_alloc];omega)).trans ((Below.heap_alloc _ _ _ (by simp only[World.size_alloc];omega)).trans (h))
  have fq2:((((w.alloc (.cells #[.int .i64 n] 3)).alloc (.cells #[.int .i64 a] 3)).alloc (.cells #[.int .i64 b] 3)).alloc (.cells #[.int .i64 0,.int .i64 0,.slice none 0 0] 24)).heap[w.heap.size+1+1]?=some (.cells #[.int .i64 b] 3 (0,0)):=by have h:=World.alloc_heap_new ((w.alloc (.cells #[.int .i64 n] 3)).alloc (.cells #[.int .i64 a] 3)) (.cells #[.int .i64 b] 3);simp only[World.size_alloc] at h;exact (Below.heap_alloc _ _ _ (by simp only[World.size_alloc];omega)).trans (h)
  have fq3:((((w.alloc (.cells #[.int .i64 n] 3)).alloc (.cells #[.int .i64 a] 3)).alloc (.cells #[.int .i64 b] 3)).alloc (.cells #[.int .i64 0,.int .i64 0,.slice none 0 0] 24)).heap[w.heap.size+1+1+1]?=some (.cells #[.int .i64 0,.int .i64 0,.slice none 0 0] 24 (0,0)):=by have h:=World.alloc_heap_new (((w.alloc (.cells #[.int .i64 n] 3)).alloc (.cells #[.int .i64 a] 3)).alloc (.cells #[.int .i64 b] 3)) (.cells #[.int .i64 0,.int .i64 0,.slice none 0 0] 24);simp only[World.size_alloc] at h;exact h
  generalize ((((w.alloc (.cells #[.int .i64 n] 3)).alloc (.cells #[.int .i64 a] 3)).alloc (.cells #[.int .i64 b] 3)).alloc (.cells #[.int .i64 0,.int .i64 0,.slice none 0 0] 24))=W0 at fsz fB fq0 fq1 fq2 fq3 ⊢
  obtain ⟨x0,xf,xl⟩:=c1_of fq0
  obtain ⟨y0,yf,yl⟩:=c1_of fq1
  obtain ⟨z0,zf,zl⟩:=c1_of fq2
  have FB:=Lib.hid fB
  have Q0:=Lib.hid fq0
  have Q1:=Lib.hid fq1
  have Q2:=Lib.hid fq2
  have Q3:=Lib.hid fq3
  clear fsz fq0 fq1 fq2 fq3
  refine wp_region_S (fun w'=>∃u,w'=over (W0) u) [13,12,11,10] [(0,0),(0,2),(0,3),(1,1),(1,4),(0,5),(0,6),(0,7),(1,8),(0,9),(2,10),(2,11),(2,12),(2,13)] (by kernel_rfl) (by kernel_rfl) (by exact ⟨_,below_over (by repeat (first|assumption|exact Below.refl _ _|refine keep_drew ?_|refine keep_alloc ?_ _|refine keep_trans ?_ (by assumption)))⟩) ?_
  dsimp only[pickOps,nthOp]
  repeat (first|(refine wpS_skip rfl (fun K hK=>?_);go_big_quiet_op;refine hK _ ?_;clear hK K)|(refine wpS_quiet rfl rfl (fun K hK=>?_);go_big_quiet_op;refine hK _ ?_;clear hK K)|(refine wpS_loud ?_;go_wp2_with (first|(go_at_call 125;refine (HO.out _).mono ?_;rintro _ w1 ⟨rfl,rfl⟩)|(go_at_call 127;with_reducible refine (HA.out _).mono ?_;rintro _ w2 ⟨rfl,rfl⟩)|(go_at_call 127;with_reducible refine (HB.out _).mono ?_;rintro _ w2 ⟨rfl,rfl⟩)|(go_at_call 93;refine (twhen_c _ _ _).mono ?_;rintro _ w3 ⟨rfl,rfl⟩)|(go_at_call 92;refine (tfirst_c _ _ _ _ _ ((IC.new2 _ _ _ _).mono (keep_drew (Below.refl _ _)))).mono ?_;rw[HF.out];rintro _ w4 ⟨rfl,rfl⟩));refine ⟨?_,?_⟩;focus (exact ⟨_,below_over (by repeat (first|assumption|exact Below.refl _ _|refine keep_drew ?_|refine keep_alloc ?_ _|refine keep_trans ?_ (by assumption)))⟩)))
  refine wpS_late _ _ _ rfl ?_
  dsimp only[List.map]
  go_wp2_with (first|(go_at_call 125;refine (HO.out _).mono ?_;rintro _ w1 ⟨rfl,rfl⟩)|(go_at_call 127;with_reducible refine (HA.out _).mono ?_;rintro _ w2 ⟨rfl,rfl⟩)|(go_at_call 127;with_reducible refine (HB.out _).mono ?_;rintro _ w2 ⟨rfl,rfl⟩)|(go_at_call 93;refine (twhen_c _ _ _).mono ?_;rintro _ w3 ⟨rfl,rfl⟩)|(go_at_call 92;refine (tfirst_c _ _ _ _ _ ((IC.new2 _ _ _ _).mono (keep_drew (Below.refl _ _)))).mono ?_;rw[HF.out];rintro _ w4 ⟨rfl,rfl⟩))
  refine NoPanic.normal ?_
  have hB9:Below W0.heap.size W0 (W0.alloc (.cells #[.int .i64 (ordE n),.int .i64 (whenV fb 3)] 27)):=by (repeat (first|assumption|exact Below.refl _ _|refine keep_drew ?_|refine keep_alloc ?_ _|refine keep_trans ?_ (by assumption)))
  have HB9:=Lib.hid (keep_trans FB.out hB9)
  have Q9:=Lib.hid (keepq hB9 Q3.out)
  clear hB9 x0 xf xl y0 yf yl z0 zf zl
  generalize (W0.alloc (.cells #[.int .i64 (ordE n),.int .i64 (whenV fb 3)] 27))=W9 at HB9 Q9 ⊢
  obtain ⟨y0,y1,y2,yl⟩:=c3_of Q9.out
  obtain ⟨yf0,yf1,yf2⟩:=f3_of Q9.out
  go_wp2_with fail
  have g3:=st3_q (x0 := .int .i64 0) (x1 := .int .i64 0) (x2 := .slice none 0 0) Q9.out
  have hb3:=st3_below (x0 := .int .i64 0) (x1 := .int .i64 0) (x2 := .slice none 0 0) (b:=w.heap.size+1+1+1) HB9.out (by omega)
  obtain ⟨z0,z1,z2,zl⟩:=c3_of g3
  refine bodyPost_ret (v := .tuple #[.agg #[.int .i64 0,.int .i64 0,.slice none 0 0],.int .i64 (er)]) ?_ rfl ⟨none,0,rfl,World.ownsRow_nil _ _ _ _,(by first|exact hb3|exact hb3.drew)⟩
  simp[results,Tryz.f55,go_sem,z0,z1,z2]
 ·rw[Bool.true_or] at hE
  have HF:=Lib.hid hE
  clear hE
  go_enter Tryz.func55,Tryz.ntmps55
  go_upto_region 2 with fail
  have fsz:((((w.alloc (.cells #[.int .i64 n] 3)).alloc (.cells #[.int .i64 a] 3)).alloc (.cells #[.int .i64 b] 3)).alloc (.cells #[.int .i64 0,.int .i64 0,.slice none 0 0] 24)).heap.size=w.heap.size+4:=by simp only[World.size_alloc] <;> omega
  have fB:Below w.heap.size w ((((w.alloc (.cells #[.int .i64 n] 3)).alloc (.cells #[.int .i64 a] 3)).alloc (.cells #[.int .i64 b] 3)).alloc (.cells #[.int .i64 0,.int .i64 0,.slice none 0 0] 24)):=((((Below.refl _ _).alloc (Nat.le_refl _) _).alloc (by simp only[World.size_alloc];omega) _).alloc (by simp only[World.size_alloc];omega) _).alloc (by simp only[World.size_alloc];omega) _
  have fq0:((((w.alloc (.cells #[.int .i64 n] 3)).alloc (.cells #[.int .i64 a] 3)).alloc (.cells #[.int .i64 b] 3)).alloc (.cells #[.int .i64 0,.int .i64 0,.slice none 0 0] 24)).heap[w.heap.size]?=some (.cells #[.int .i64 n] 3 (0,0)):=by have h:=World.alloc_heap_new w (.cells #[.int .i64 n] 3);exact (Below.heap_alloc _ _ _ (by simp only[World.size_alloc];omega)).trans ((Below.heap_alloc _ _ _ (by simp only[World.size_alloc];omega)).trans ((Below.heap_alloc _ _ _ (by simp only[World.size_alloc];omega)).trans (h)))
  have fq1:((((w.alloc (.cells #[.int .i64 n] 3)).alloc (.cells #[.int .i64 a] 3)).alloc (.cells #[.int .i64 b] 3)).alloc (.cells #[.int .i64 0,.int .i64 0,.slice none 0 0] 24)).heap[w.heap.size+1]?=some (.cells #[.int .i64 a] 3 (0,0)):=by have h:=World.alloc_heap_new (w.alloc (.cells #[.int .i64 n] 3)) (.cells #[.int .i64 a] 3);simp only[World.size_alloc] at h;exact (Below.heap_alloc _ _ _ (by simp only[World.size_alloc];omega)).trans ((Below.heap_alloc _ _ _ (by simp only[World.size_alloc];omega)).trans (h))
  have fq2:((((w.alloc (.cells #[.int .i64 n] 3)).alloc (.cells #[.int .i64 a] 3)).alloc (.cells #[.int .i64 b] 3)).alloc (.cells #[.int .i64 0,.int .i64 0,.slice none 0 0] 24)).heap[w.heap.size+1+1]?=some (.cells #[.int .i64 b] 3 (0,0)):=by have h:=World.alloc_heap_new ((w.alloc (.cells #[.int .i64 n] 3)).alloc (.cells #[.int .i64 a] 3)) (.cells #[.int .i64 b] 3);simp only[World.size_alloc] at h;exact (Below.heap_alloc _ _ _ (by simp only[World.size_alloc];omega)).trans (h)
  have fq3:((((w.alloc (.cells #[.int .i64 n] 3)).alloc (.cells #[.int .i64 a] 3)).alloc (.cells #[.int .i64 b] 3)).alloc (.cells #[.int .i64 0,.int .i64 0,.slice none 0 0] 24)).heap[w.heap.size+1+1+1]?=some (.cells #[.int .i64 0,.int .i64 0,.slice none 0 0] 24 (0,0)):=by have h:=World.alloc_heap_new (((w.alloc (.cells #[.int .i64 n] 3)).alloc (.cells #[.int .i64 a] 3)).alloc (.cells #[.int .i64 b] 3)) (.cells #[.int .i64 0,.int .i64 0,.slice none 0 0] 24);simp only[World.size_alloc] at h;exact h
  generalize ((((w.alloc (.cells #[.int .i64 n] 3)).alloc (.cells #[.int .i64 a] 3)).alloc (.cells #[.int .i64 b] 3)).alloc (.cells #[.int .i64 0,.int .i64 0,.slice none 0 0] 24))=W0 at fsz fB fq0 fq1 fq2 fq3 ⊢
  obtain ⟨x0,xf,xl⟩:=c1_of fq0
  obtain ⟨y0,yf,yl⟩:=c1_of fq1
  obtain ⟨z0,zf,zl⟩:=c1_of fq2
  have FB:=Lib.hid fB
  have Q0:=Lib.hid fq0
  have Q1:=Lib.hid fq1
  have Q2:=Lib.hid fq2
  have Q3:=Lib.hid fq3
  clear fsz fq0 fq1 fq2 fq3
  refine wp_region_S (fun w'=>∃u,w'=over (W0) u) [13,12,11,10] [(0,0),(0,2),(0,3),(1,1),(1,4),(0,5),(0,6),(0,7),(1,8),(0,9),(2,10),(2,11),(2,12),(2,13)] (by kernel_rfl) (by kernel_rfl) (by exact ⟨_,below_over (by repeat (first|assumption|exact Below.refl _ _|refine keep_drew ?_|refine keep_alloc ?_ _|refine keep_trans ?_ (by assumption)))⟩) ?_
  dsimp only[pickOps,nthOp]
  repeat (first|(refine wpS_skip rfl (fun K hK=>?_);go_big_quiet_op;refine hK _ ?_;clear hK K)|(refine wpS_quiet rfl rfl (fun K hK=>?_);go_big_quiet_op;refine hK _ ?_;clear hK K)|(refine wpS_loud ?_;go_wp2_with (first|(go_at_call 125;refine (HO.out _).mono ?_;rintro _ w1 ⟨rfl,rfl⟩)|(go_at_call 127;with_reducible refine (HA.out _).mono ?_;rintro _ w2 ⟨rfl,rfl⟩)|(go_at_call 127;with_reducible refine (HB.out _).mono ?_;rintro _ w2 ⟨rfl,rfl⟩)|(go_at_call 93;refine (twhen_c _ _ _).mono ?_;rintro _ w3 ⟨rfl,rfl⟩)|(go_at_call 92;refine (tfirst_c _ _ _ _ _ ((IC.new2 _ _ _ _).mono (keep_drew (Below.refl _ _)))).mono ?_;rw[HF.out];rintro _ w4 ⟨rfl,rfl⟩));refine ⟨?_,?_⟩;focus (exact ⟨_,below_over (by repeat (first|assumption|exact Below.refl _ _|refine keep_drew ?_|refine keep_alloc ?_ _|refine keep_trans ?_ (by assumption)))⟩)))
  refine wpS_late _ _ _ rfl ?_
  dsimp only[List.map]
  go_wp2_with (first|(go_at_call 125;refine (HO.out _).mono ?_;rintro _ w1 ⟨rfl,rfl⟩)|(go_at_call 127;with_reducible refine (HA.out _).mono ?_;rintro _ w2 ⟨rfl,rfl⟩)|(go_at_call 127;with_reducible refine (HB.out _).mono ?_;rintro _ w2 ⟨rfl,rfl⟩)|(go_at_call 93;refine (twhen_c _ _ _).mono ?_;rintro _ w3 ⟨rfl,rfl⟩)|(go_at_call 92;refine (tfirst_c _ _ _ _ _ ((IC.new2 _ _ _ _).mono (keep_drew (Below.refl _ _)))).mono ?_;rw[HF.out];rintro _ w4 ⟨rfl,rfl⟩))
  refine NoPanic.normal ?_
  have hB9:Below W0.heap.size W0 (W0.alloc (.cells #[.int .i64 (ordE n),.int .i64 (whenV true 3)] 27)):=by (repeat (first|assumption|exact Below.refl _ _|refine keep_drew ?_|refine keep_alloc ?_ _|refine keep_trans ?_ (by assumption)))
  have HB9:=Lib.hid (keep_trans FB.out hB9)
  have Q9:=Lib.hid (keepq hB9 Q3.out)
  clear hB9 x0 xf xl y0 yf yl z0 zf zl
  generalize (W0.alloc (.cells #[.int .i64 (ordE n),.int .i64 (whenV true 3)] 27))=W9 at HB9 Q9 ⊢
  obtain ⟨y0,y1,y2,yl⟩:=c3_of Q9.out
  obtain ⟨yf0,yf1,yf2⟩:=f3_of Q9.out
  go_wp2_with fail
  have g3:=st3_q (x0 := .int .i64 0) (x1 := .int .i64 0) (x2 := .slice none 0 0) Q9.out
  have hb3:=st3_below (x0 := .int .i64 0) (x1 := .int .i64 0) (x2 := .slice none 0 0) (b:=w.heap.size+1+1+1) HB9.out (by omega)
  obtain ⟨z0,z1,z2,zl⟩:=c3_of g3
  refine bodyPost_ret (v := .tuple #[.agg #[.int .i64 0,.int .i64 0,.slice none 0 0],.int .i64 (er)]) ?_ rfl ⟨none,0,rfl,World.ownsRow_nil _ _ _ _,(by first|exact hb3|exact hb3.drew)⟩
  simp[results,Tryz.f55,go_sem,z0,z1,z2]
theorem linear_c (n a b:Int) (w:World):Calls Tryz.prog 55 #[.int .i64 n,.int .i64 a,.int .i64 b] w (GridE w (if linEr n a b=0 then n else 0) (if linEr n a b=0 then n else 0) (linL n a b) (linEr n a b)):=by
 by_cases h1:linE n a b=0
 ·obtain ⟨hO,hfa,hfb⟩:=linE_ok h1
  obtain ⟨N,rfl,hN1,hN2⟩:=ordE_ok hO
  have ha:=farB_num hfa
  have hb:=farB_num hfb
  have hLE:linEr (N:Int) a b=if sinB (N:Int) a b=true then 18 else 0:=by unfold linEr;rw[if_pos h1]
  have hLL:linL (N:Int) a b=if linEr (N:Int) a b=0 then madeTo N (linS N a b) (N*N) else []:=rfl
  have HO:=Lib.hid (fun W=>corder_c (N:Int) W)
  have HA:=Lib.hid (fun W=>lin1_c a W)
  have HB:=Lib.hid (fun W=>lin1_c b W)
  rw[hfa] at HA
  rw[hfb] at HB
  rw[hO] at HO
  have HF:Hid (firstL [0,whenV false 3]=0):=by show firstL [0,whenV false 3]=0;decide
  have HGA:=Lib.hid (fun W=>gcd_c a (N:Int) W (by omega) (by omega))
  have HGB:=Lib.hid (fun W=>gcd_c b (N:Int) W (by omega) (by omega))
  have hs:sinB (N:Int) a b=(!decide (Int.gcd a (N:Int)=1)||!decide (Int.gcd b (N:Int)=1)):=rfl
  obtain ⟨ga,hga⟩:∃ga,ga=Int.gcd a (N:Int):=⟨_,rfl⟩
  obtain ⟨gb,hgb⟩:∃gb,gb=Int.gcd b (N:Int):=⟨_,rfl⟩
  rw[← hga] at HGA hs
  rw[← hgb] at HGB hs
  by_cases hg1:ga=1
  ·subst hg1
   by_cases hg2:gb=1
   ·subst hg2
    have hsb:sinB (N:Int) a b=false:=by rw[hs];rfl
    rw[hsb,if_neg (by decide)] at hLE
    rw[hLE,if_pos rfl] at hLL
    rw[hLE,if_pos rfl]
    generalize linL (N:Int) a b=cs at hLL ⊢
    clear hs hsb hLE h1 hO hfa hfb hga hgb
    go_enter Tryz.func55,Tryz.ntmps55
    go_upto_region 2 with fail
    have fsz:((((w.alloc (.cells #[.int .i64 (N:Int)] 3)).alloc (.cells #[.int .i64 a] 3)).alloc (.cells #[.int .i64 b] 3)).alloc (.cells #[.int .i64 0,.int .i64 0,.slice none 0 0] 24)).heap.size=w.heap.size+4:=by simp only[World.size_alloc] <;> omega
    have fB:Below w.heap.size w ((((w.alloc (.cells #[.int .i64 (N:Int)] 3)).alloc (.cells #[.int .i64 a] 3)).alloc (.cells #[.int .i64 b] 3)).alloc (.cells #[.int .i64 0,.int .i64 0,.slice none 0 0] 24)):=((((Below.refl _ _).alloc (Nat.le_refl _) _).alloc (by simp only[World.size_alloc];omega) _).alloc (by simp only[World.size_alloc];omega) _).alloc (by simp only[World.size_alloc];omega) _
    have fq0:((((w.alloc (.cells #[.int .i64 (N:Int)] 3)).alloc (.cells #[.int .i64 a] 3)).alloc (.cells #[.int .i64 b] 3)).alloc (.cells #[.int .i64 0,.int .i64 0,.slice none 0 0] 24)).heap[w.heap.size]?=some (.cells #[.int .i64 (N:Int)] 3 (0,0)):=by have h:=World.alloc_heap_new w (.cells #[.int .i64 (N:Int)] 3);exact (Below.heap_alloc _ _ _ (by simp only[World.size_alloc];omega)).trans ((Below.heap_alloc _ _ _ (by simp only[World.size_alloc];omega)).trans ((Below.heap_alloc _ _ _ (by simp only[World.size_alloc];omega)).trans (h)))
    have fq1:((((w.alloc (.cells #[.int .i64 (N:Int)] 3)).alloc (.cells #[.int .i64 a] 3)).alloc (.cells #[.int .i64 b] 3)).alloc (.cells #[.int .i64 0,.int .i64 0,.slice none 0 0] 24)).heap[w.heap.size+1]?=some (.cells #[.int .i64 a] 3 (0,0)):=by have h:=World.alloc_heap_new (w.alloc (.cells #[.int .i64 (N:Int)] 3)) (.cells #[.int .i64 a] 3);simp only[World.size_alloc] at h;exact (Below.heap_alloc _ _ _ (by simp only[World.size_alloc];omega)).trans ((Below.heap_alloc _ _ _ (by simp only[World.size_alloc];omega)).trans (h))
    have fq2:((((w.alloc (.cells #[.int .i64 (N:Int)] 3)).alloc (.cells #[.int .i64 a] 3)).alloc (.cells #[.int .i64 b] 3)).alloc (.cells #[.int .i64 0,.int .i64 0,.slice none 0 0] 24)).heap[w.heap.size+1+1]?=some (.cells #[.int .i64 b] 3 (0,0)):=by have h:=World.alloc_heap_new ((w.alloc (.cells #[.int .i64 (N:Int)] 3)).alloc (.cells #[.int .i64 a] 3)) (.cells #[.int .i64 b] 3);simp only[World.size_alloc] at h;exact (Below.heap_alloc _ _ _ (by simp only[World.size_alloc];omega)).trans (h)
    have fq3:((((w.alloc (.cells #[.int .i64 (N:Int)] 3)).alloc (.cells #[.int .i64 a] 3)).alloc (.cells #[.int .i64 b] 3)).alloc (.cells #[.int .i64 0,.int .i64 0,.slice none 0 0] 24)).heap[w.heap.size+1+1+1]?=some (.cells #[.int .i64 0,.int .i64 0,.slice none 0 0] 24 (0,0)):=by have h:=World.alloc_heap_new (((w.alloc (.cells #[.int .i64 (N:Int)] 3)).alloc (.cells #[.int .i64 a] 3)).alloc (.cells #[.int .i64 b] 3)) (.cells #[.int .i64 0,.int .i64 0,.slice none 0 0] 24);simp only[World.size_alloc] at h;exact h
    generalize ((((w.alloc (.cells #[.int .i64 (N:Int)] 3)).alloc (.cells #[.int .i64 a] 3)).alloc (.cells #[.int .i64 b] 3)).alloc (.cells #[.int .i64 0,.int .i64 0,.slice none 0 0] 24))=W0 at fsz fB fq0 fq1 fq2 fq3 ⊢
    obtain ⟨x0,xf,xl⟩:=c1_of fq0
    obtain ⟨y0,yf,yl⟩:=c1_of fq1
    obtain ⟨z0,zf,zl⟩:=c1_of fq2
    have FB:=Lib.hid fB
    have Q0:=Lib.hid fq0
    have Q1:=Lib.hid fq1
    have Q2:=Lib.hid fq2
    have Q3:=Lib.hid fq3
    clear fsz fq0 fq1 fq2 fq3
    refine wp_region_S (fun w'=>∃u,w'=over (W0) u) [13,12,11,10] [(0,0),(0,2),(0,3),(1,1),(1,4),(0,5),(0,6),(0,7),(1,8),(0,9),(2,10),(2,11),(2,12),(2,13)] (by kernel_rfl) (by kernel_rfl) (by exact ⟨_,below_over (by repeat (first|assumption|exact Below.refl _ _|refine keep_drew ?_|refine keep_alloc ?_ _|refine keep_trans ?_ (by assumption)))⟩) ?_
    dsimp only[pickOps,nthOp]
    repeat (first|(refine wpS_skip rfl (fun K hK=>?_);go_big_quiet_op;refine hK _ ?_;clear hK K)|(refine wpS_quiet rfl rfl (fun K hK=>?_);go_big_quiet_op;refine hK _ ?_;clear hK K)|(refine wpS_loud ?_;go_wp2_with (first|(go_at_call 125;refine (HO.out _).mono ?_;rintro _ w1 ⟨rfl,rfl⟩)|(go_at_call 127;with_reducible refine (HA.out _).mono ?_;rintro _ w2 ⟨rfl,rfl⟩)|(go_at_call 127;with_reducible refine (HB.out _).mono ?_;rintro _ w2 ⟨rfl,rfl⟩)|(go_at_call 93;refine (twhen_c _ _ _).mono ?_;rintro _ w3 ⟨rfl,rfl⟩)|(go_at_call 92;refine (tfirst_c _ _ _ _ _ ((IC.new2 _ _ _ _).mono (keep_drew (Below.refl _ _)))).mono ?_;rw[HF.out];rintro _ w4 ⟨rfl,rfl⟩));refine ⟨?_,?_⟩;focus (exact ⟨_,below_over (by repeat (first|assumption|exact Below.refl _ _|refine keep_drew ?_|refine keep_alloc ?_ _|refine keep_trans ?_ (by assumption)))⟩)))
    refine wpS_late _ _ _ rfl ?_
    dsimp only[List.map]
    go_wp2_with (first|(go_at_call 125;refine (HO.out _).mono ?_;rintro _ w1 ⟨rfl,rfl⟩)|(go_at_call 127;with_reducible refine (HA.out _).mono ?_;rintro _ w2 ⟨rfl,rfl⟩)|(go_at_call 127;with_reducible refine (HB.out _).mono ?_;rintro _ w2 ⟨rfl,rfl⟩)|(go_at_call 93;refine (twhen_c _ _ _).mono ?_;rintro _ w3 ⟨rfl,rfl⟩)|(go_at_call 92;refine (tfirst_c _ _ _ _ _ ((IC.new2 _ _ _ _).mono (keep_drew (Below.refl _ _)))).mono ?_;rw[HF.out];rintro _ w4 ⟨rfl,rfl⟩))
    refine NoPanic.normal ?_
    have hB9:Below W0.heap.size W0 (W0.alloc (.cells #[.int .i64 0,.int .i64 (whenV false 3)] 27)):=by (repeat (first|assumption|exact Below.refl _ _|refine keep_drew ?_|refine keep_alloc ?_ _|refine keep_trans ?_ (by assumption)))
    have HB9:=Lib.hid (keep_trans FB.out hB9)
    have Q9:=Lib.hid (keepq hB9 Q3.out)
    have P0:=Lib.hid (keepq hB9 Q0.out)
    have P1:=Lib.hid (keepq hB9 Q1.out)
    have P2:=Lib.hid (keepq hB9 Q2.out)
    clear hB9 x0 xf xl y0 yf yl z0 zf zl
    generalize (W0.alloc (.cells #[.int .i64 0,.int .i64 (whenV false 3)] 27))=W9 at HB9 Q9 P0 P1 P2 ⊢
    obtain ⟨x0,xf,xl⟩:=c1_of P0.out
    obtain ⟨z0,zf,zl⟩:=c1_of P1.out
    obtain ⟨u0,uf,ul⟩:=c1_of P2.out
    have HM:Hid (∀W,Below W9.heap.size W9 W→Calls Tryz.prog 94 #[.int .i64 (N:Int),.func (.func 129) #[] #[.pointer (some ⟨w.heap.size+1,0,none⟩),.pointer (some ⟨w.heap.size+1+1,0,none⟩),.pointer (some ⟨w.heap.size,0,none⟩)]] W (GridM W (N:Int) (N:Int) cs)):=by
     exact fun W hbw=>made_g N (by omega) 129 #[] #[.pointer (some ⟨w.heap.size+1,0,none⟩),.pointer (some ⟨w.heap.size+1+1,0,none⟩),.pointer (some ⟨w.heap.size,0,none⟩)] (linS N a b) cs W hLL enterLin (fun i j hi hj W' hb'=>lin2_c N i j _ _ _ a b W' hN1 hN2 hi hj ha hb (keepq hb' (keepq hbw P1.out)) (keepq hb' (keepq hbw P2.out)) (keepq hb' (keepq hbw P0.out)))
    clear hLL
    go_wp2_with (first|(go_at_call 128;with_reducible refine (HGA.out _).mono ?_;rintro _ w5 ⟨rfl,hb5⟩;clear x0 xf xl z0 zf zl u0 uf ul;obtain ⟨x0,xf,xl⟩:=c1_of (keepq hb5 P0.out);obtain ⟨z0,zf,zl⟩:=c1_of (keepq hb5 P1.out);obtain ⟨u0,uf,ul⟩:=c1_of (keepq hb5 P2.out))|(go_at_call 128;with_reducible refine (HGB.out _).mono ?_;rintro _ w6 ⟨rfl,hb6⟩;clear x0 xf xl z0 zf zl u0 uf ul;obtain ⟨x0,xf,xl⟩:=c1_of (keepq (keep_trans hb5 hb6) P0.out);obtain ⟨z0,zf,zl⟩:=c1_of (keepq (keep_trans hb5 hb6) P1.out);obtain ⟨u0,uf,ul⟩:=c1_of (keepq (keep_trans hb5 hb6) P2.out))|(go_at_call 94;refine (HM.out _ (by (repeat (first|assumption|exact Below.refl _ _|refine keep_drew ?_|refine keep_alloc ?_ _|refine keep_trans ?_ (by assumption))))).mono ?_;rintro _ w2 ⟨a2,c2,rfl,hown2,hb2⟩;have g1:=keepq (show Below W9.heap.size W9 w2 by (repeat (first|assumption|exact Below.refl _ _|refine keep_drew ?_|refine keep_alloc ?_ _|refine keep_trans ?_ (by assumption)))) Q9.out;have hs2:W9.heap.size≤w6.heap.size:=Nat.le_trans hb5.size hb6.size;obtain ⟨y0,y1,y2,yl⟩:=c3_of g1;obtain ⟨yf0,yf1,yf2⟩:=f3_of g1)|fail)
    have hs6:w.heap.size+1+1+1<w6.heap.size:=Nat.lt_of_lt_of_le (q_lt Q9.out) hs2
    have hne:(Value.slice a2 (cs).length c2).ownBlock≠some (w.heap.size+1+1+1):=fun e=>absurd (hown2.lt _ e).1 (by omega)
    have g3:=st3_q (x0 := .int .i64 (N:Int)) (x1 := .int .i64 (N:Int)) (x2 := .slice a2 (cs).length c2) g1
    have hown3:=st3_own (x0 := .int .i64 (N:Int)) (x1 := .int .i64 (N:Int)) (x2 := .slice a2 (cs).length c2) hown2 hne
    have hb3:=st3_below (x0 := .int .i64 (N:Int)) (x1 := .int .i64 (N:Int)) (x2 := .slice a2 (cs).length c2) (b:=w.heap.size+1+1+1) (keep_trans HB9.out (show Below W9.heap.size W9 w2 by (repeat (first|assumption|exact Below.refl _ _|refine keep_drew ?_|refine keep_alloc ?_ _|refine keep_trans ?_ (by assumption))))) (by omega)
    obtain ⟨z0,z1,z2,zl⟩:=c3_of g3
    refine bodyPost_ret (v := .tuple #[.agg #[.int .i64 (N:Int),.int .i64 (N:Int),.slice a2 (cs).length c2],.int .i64 0]) ?_ rfl ⟨_,_,rfl,owns_base hown3 (Nat.le_trans HB9.out.size hs2),(by first|exact hb3|exact hb3.drew)⟩
    simp[results,Tryz.f55,go_sem,z0,z1,z2]
   ·have hg2':((gb:Int)==1)=false:=by simpa using (show ¬(gb:Int)=1 by omega)
    have hsb:sinB (N:Int) a b=true:=by rw[hs,decide_eq_false hg2];rfl
    rw[hsb,if_pos rfl] at hLE
    have hne:linEr (N:Int) a b≠0:=by rw[hLE];decide
    have hcl:linL (N:Int) a b=[]:=if_neg hne
    rw[if_neg hne,hcl,hLE]
    clear hs hsb hLE h1 hO hfa hfb hga hgb hLL hne hcl
    go_enter Tryz.func55,Tryz.ntmps55
    go_upto_region 2 with fail
    have fsz:((((w.alloc (.cells #[.int .i64 (N:Int)] 3)).alloc (.cells #[.int .i64 a] 3)).alloc (.cells #[.int .i64 b] 3)).alloc (.cells #[.int .i64 0,.int .i64 0,.slice none 0 0] 24)).heap.size=w.heap.size+4:=by simp only[World.size_alloc] <;> omega
    have fB:Below w.heap.size w ((((w.alloc (.cells #[.int .i64 (N:Int)] 3)).alloc (.cells #[.int .i64 a] 3)).alloc (.cells #[.int .i64 b] 3)).alloc (.cells #[.int .i64 0,.int .i64 0,.slice none 0 0] 24)):=((((Below.refl _ _).alloc (Nat.le_refl _) _).alloc (by simp only[World.size_alloc];omega) _).alloc (by simp only[World.size_alloc];omega) _).alloc (by simp only[World.size_alloc];omega) _
    have fq0:((((w.alloc (.cells #[.int .i64 (N:Int)] 3)).alloc (.cells #[.int .i64 a] 3)).alloc (.cells #[.int .i64 b] 3)).alloc (.cells #[.int .i64 0,.int .i64 0,.slice none 0 0] 24)).heap[w.heap.size]?=some (.cells #[.int .i64 (N:Int)] 3 (0,0)):=by have h:=World.alloc_heap_new w (.cells #[.int .i64 (N:Int)] 3);exact (Below.heap_alloc _ _ _ (by simp only[World.size_alloc];omega)).trans ((Below.heap_alloc _ _ _ (by simp only[World.size_alloc];omega)).trans ((Below.heap_alloc _ _ _ (by simp only[World.size_alloc];omega)).trans (h)))
    have fq1:((((w.alloc (.cells #[.int .i64 (N:Int)] 3)).alloc (.cells #[.int .i64 a] 3)).alloc (.cells #[.int .i64 b] 3)).alloc (.cells #[.int .i64 0,.int .i64 0,.slice none 0 0] 24)).heap[w.heap.size+1]?=some (.cells #[.int .i64 a] 3 (0,0)):=by have h:=World.alloc_heap_new (w.alloc (.cells #[.int .i64 (N:Int)] 3)) (.cells #[.int .i64 a] 3);simp only[World.size_alloc] at h;exact (Below.heap_alloc _ _ _ (by simp only[World.size_alloc];omega)).trans ((Below.heap_alloc _ _ _ (by simp only[World.size_alloc];omega)).trans (h))
    have fq2:((((w.alloc (.cells #[.int .i64 (N:Int)] 3)).alloc (.cells #[.int .i64 a] 3)).alloc (.cells #[.int .i64 b] 3)).alloc (.cells #[.int .i64 0,.int .i64 0,.slice none 0 0] 24)).heap[w.heap.size+1+1]?=some (.cells #[.int .i64 b] 3 (0,0)):=by have h:=World.alloc_heap_new ((w.alloc (.cells #[.int .i64 (N:Int)] 3)).alloc (.cells #[.int .i64 a] 3)) (.cells #[.int .i64 b] 3);simp only[World.size_alloc] at h;exact (Below.heap_alloc _ _ _ (by simp only[World.size_alloc];omega)).trans (h)
    have fq3:((((w.alloc (.cells #[.int .i64 (N:Int)] 3)).alloc (.cells #[.int .i64 a] 3)).alloc (.cells #[.int .i64 b] 3)).alloc (.cells #[.int .i64 0,.int .i64 0,.slice none 0 0] 24)).heap[w.heap.size+1+1+1]?=some (.cells #[.int .i64 0,.int .i64 0,.slice none 0 0] 24 (0,0)):=by have h:=World.alloc_heap_new (((w.alloc (.cells #[.int .i64 (N:Int)] 3)).alloc (.cells #[.int .i64 a] 3)).alloc (.cells #[.int .i64 b] 3)) (.cells #[.int .i64 0,.int .i64 0,.slice none 0 0] 24);simp only[World.size_alloc] at h;exact h
    generalize ((((w.alloc (.cells #[.int .i64 (N:Int)] 3)).alloc (.cells #[.int .i64 a] 3)).alloc (.cells #[.int .i64 b] 3)).alloc (.cells #[.int .i64 0,.int .i64 0,.slice none 0 0] 24))=W0 at fsz fB fq0 fq1 fq2 fq3 ⊢
    obtain ⟨x0,xf,xl⟩:=c1_of fq0
    obtain ⟨y0,yf,yl⟩:=c1_of fq1
    obtain ⟨z0,zf,zl⟩:=c1_of fq2
    have FB:=Lib.hid fB
    have Q0:=Lib.hid fq0
    have Q1:=Lib.hid fq1
    have Q2:=Lib.hid fq2
    have Q3:=Lib.hid fq3
    clear fsz fq0 fq1 fq2 fq3
    refine wp_region_S (fun w'=>∃u,w'=over (W0) u) [13,12,11,10] [(0,0),(0,2),(0,3),(1,1),(1,4),(0,5),(0,6),(0,7),(1,8),(0,9),(2,10),(2,11),(2,12),(2,13)] (by kernel_rfl) (by kernel_rfl) (by exact ⟨_,below_over (by repeat (first|assumption|exact Below.refl _ _|refine keep_drew ?_|refine keep_alloc ?_ _|refine keep_trans ?_ (by assumption)))⟩) ?_
    dsimp only[pickOps,nthOp]
    repeat (first|(refine wpS_skip rfl (fun K hK=>?_);go_big_quiet_op;refine hK _ ?_;clear hK K)|(refine wpS_quiet rfl rfl (fun K hK=>?_);go_big_quiet_op;refine hK _ ?_;clear hK K)|(refine wpS_loud ?_;go_wp2_with (first|(go_at_call 125;refine (HO.out _).mono ?_;rintro _ w1 ⟨rfl,rfl⟩)|(go_at_call 127;with_reducible refine (HA.out _).mono ?_;rintro _ w2 ⟨rfl,rfl⟩)|(go_at_call 127;with_reducible refine (HB.out _).mono ?_;rintro _ w2 ⟨rfl,rfl⟩)|(go_at_call 93;refine (twhen_c _ _ _).mono ?_;rintro _ w3 ⟨rfl,rfl⟩)|(go_at_call 92;refine (tfirst_c _ _ _ _ _ ((IC.new2 _ _ _ _).mono (keep_drew (Below.refl _ _)))).mono ?_;rw[HF.out];rintro _ w4 ⟨rfl,rfl⟩));refine ⟨?_,?_⟩;focus (exact ⟨_,below_over (by repeat (first|assumption|exact Below.refl _ _|refine keep_drew ?_|refine keep_alloc ?_ _|refine keep_trans ?_ (by assumption)))⟩)))
    refine wpS_late _ _ _ rfl ?_
    dsimp only[List.map]
    go_wp2_with (first|(go_at_call 125;refine (HO.out _).mono ?_;rintro _ w1 ⟨rfl,rfl⟩)|(go_at_call 127;with_reducible refine (HA.out _).mono ?_;rintro _ w2 ⟨rfl,rfl⟩)|(go_at_call 127;with_reducible refine (HB.out _).mono ?_;rintro _ w2 ⟨rfl,rfl⟩)|(go_at_call 93;refine (twhen_c _ _ _).mono ?_;rintro _ w3 ⟨rfl,rfl⟩)|(go_at_call 92;refine (tfirst_c _ _ _ _ _ ((IC.new2 _ _ _ _).mono (keep_drew (Below.refl _ _)))).mono ?_;rw[HF.out];rintro _ w4 ⟨rfl,rfl⟩))
    refine NoPanic.normal ?_
    have hB9:Below W0.heap.size W0 (W0.alloc (.cells #[.int .i64 0,.int .i64 (whenV false 3)] 27)):=by (repeat (first|assumption|exact Below.refl _ _|refine keep_drew ?_|refine keep_alloc ?_ _|refine keep_trans ?_ (by assumption)))
    have HB9:=Lib.hid (keep_trans FB.out hB9)
    have Q9:=Lib.hid (keepq hB9 Q3.out)
    have P0:=Lib.hid (keepq hB9 Q0.out)
    have P1:=Lib.hid (keepq hB9 Q1.out)
    have P2:=Lib.hid (keepq hB9 Q2.out)
    clear hB9 x0 xf xl y0 yf yl z0 zf zl
    generalize (W0.alloc (.cells #[.int .i64 0,.int .i64 (whenV false 3)] 27))=W9 at HB9 Q9 P0 P1 P2 ⊢
    obtain ⟨x0,xf,xl⟩:=c1_of P0.out
    obtain ⟨z0,zf,zl⟩:=c1_of P1.out
    obtain ⟨u0,uf,ul⟩:=c1_of P2.out
    go_upto_region 6 with (first|(go_at_call 128;with_reducible refine (HGA.out _).mono ?_;rintro _ w5 ⟨rfl,hb5⟩;clear x0 xf xl z0 zf zl u0 uf ul;obtain ⟨x0,xf,xl⟩:=c1_of (keepq hb5 P0.out);obtain ⟨z0,zf,zl⟩:=c1_of (keepq hb5 P1.out);obtain ⟨u0,uf,ul⟩:=c1_of (keepq hb5 P2.out))|(go_at_call 128;with_reducible refine (HGB.out _).mono ?_;rintro _ w6 ⟨rfl,hb6⟩)|fail)
    have hB6:Below W9.heap.size W9 w6:=by (repeat (first|assumption|exact Below.refl _ _|refine keep_drew ?_|refine keep_alloc ?_ _|refine keep_trans ?_ (by assumption)))
    have Q6:=Lib.hid (keepq hB6 Q9.out)
    have HB6:=Lib.hid (keep_trans HB9.out hB6)
    clear hB6
    obtain ⟨y0,y1,y2,yl⟩:=c3_of Q6.out
    obtain ⟨yf0,yf1,yf2⟩:=f3_of Q6.out
    go_wp2_with fail
    have g3:=st3_q (x0 := .int .i64 0) (x1 := .int .i64 0) (x2 := .slice none 0 0) Q6.out
    have hb3:=st3_below (x0 := .int .i64 0) (x1 := .int .i64 0) (x2 := .slice none 0 0) (b:=w.heap.size+1+1+1) HB6.out (by omega)
    obtain ⟨z0,z1,z2,zl⟩:=c3_of g3
    refine bodyPost_ret (v := .tuple #[.agg #[.int .i64 0,.int .i64 0,.slice none 0 0],.int .i64 (18)]) ?_ rfl ⟨none,0,rfl,World.ownsRow_nil _ _ _ _,(by first|exact hb3|exact hb3.drew)⟩
    simp[results,Tryz.f55,go_sem,z0,z1,z2]
  ·have hg1':((ga:Int)==1)=false:=by simpa using (show ¬(ga:Int)=1 by omega)
   have hsb:sinB (N:Int) a b=true:=by rw[hs,decide_eq_false hg1];rfl
   rw[hsb,if_pos rfl] at hLE
   have hne:linEr (N:Int) a b≠0:=by rw[hLE];decide
   have hcl:linL (N:Int) a b=[]:=if_neg hne
   rw[if_neg hne,hcl,hLE]
   clear hs hsb hLE h1 hO hfa hfb hga hgb hLL hne hcl
   go_enter Tryz.func55,Tryz.ntmps55
   go_upto_region 2 with fail
   have fsz:((((w.alloc (.cells #[.int .i64 (N:Int)] 3)).alloc (.cells #[.int .i64 a] 3)).alloc (.cells #[.int .i64 b] 3)).alloc (.cells #[.int .i64 0,.int .i64 0,.slice none 0 0] 24)).heap.size=w.heap.size+4:=by simp only[World.size_alloc] <;> omega
   have fB:Below w.heap.size w ((((w.alloc (.cells #[.int .i64 (N:Int)] 3)).alloc (.cells #[.int .i64 a] 3)).alloc (.cells #[.int .i64 b] 3)).alloc (.cells #[.int .i64 0,.int .i64 0,.slice none 0 0] 24)):=((((Below.refl _ _).alloc (Nat.le_refl _) _).alloc (by simp only[World.size_alloc];omega) _).alloc (by simp only[World.size_alloc];omega) _).alloc (by simp only[World.size_alloc];omega) _
   have fq0:((((w.alloc (.cells #[.int .i64 (N:Int)] 3)).alloc (.cells #[.int .i64 a] 3)).alloc (.cells #[.int .i64 b] 3)).alloc (.cells #[.int .i64 0,.int .i64 0,.slice none 0 0] 24)).heap[w.heap.size]?=some (.cells #[.int .i64 (N:Int)] 3 (0,0)):=by have h:=World.alloc_heap_new w (.cells #[.int .i64 (N:Int)] 3);exact (Below.heap_alloc _ _ _ (by simp only[World.size_alloc];omega)).trans ((Below.heap_alloc _ _ _ (by simp only[World.size_alloc];omega)).trans ((Below.heap_alloc _ _ _ (by simp only[World.size_alloc];omega)).trans (h)))
   have fq1:((((w.alloc (.cells #[.int .i64 (N:Int)] 3)).alloc (.cells #[.int .i64 a] 3)).alloc (.cells #[.int .i64 b] 3)).alloc (.cells #[.int .i64 0,.int .i64 0,.slice none 0 0] 24)).heap[w.heap.size+1]?=some (.cells #[.int .i64 a] 3 (0,0)):=by have h:=World.alloc_heap_new (w.alloc (.cells #[.int .i64 (N:Int)] 3)) (.cells #[.int .i64 a] 3);simp only[World.size_alloc] at h;exact (Below.heap_alloc _ _ _ (by simp only[World.size_alloc];omega)).trans ((Below.heap_alloc _ _ _ (by simp only[World.size_alloc];omega)).trans (h))
   have fq2:((((w.alloc (.cells #[.int .i64 (N:Int)] 3)).alloc (.cells #[.int .i64 a] 3)).alloc (.cells #[.int .i64 b] 3)).alloc (.cells #[.int .i64 0,.int .i64 0,.slice none 0 0] 24)).heap[w.heap.size+1+1]?=some (.cells #[.int .i64 b] 3 (0,0)):=by have h:=World.alloc_heap_new ((w.alloc (.cells #[.int .i64 (N:Int)] 3)).alloc (.cells #[.int .i64 a] 3)) (.cells #[.int .i64 b] 3);simp only[World.size_alloc] at h;exact (Below.heap_alloc _ _ _ (by simp only[World.size_alloc];omega)).trans (h)
   have fq3:((((w.alloc (.cells #[.int .i64 (N:Int)] 3)).alloc (.cells #[.int .i64 a] 3)).alloc (.cells #[.int .i64 b] 3)).alloc (.cells #[.int .i64 0,.int .i64 0,.slice none 0 0] 24)).heap[w.heap.size+1+1+1]?=some (.cells #[.int .i64 0,.int .i64 0,.slice none 0 0] 24 (0,0)):=by have h:=World.alloc_heap_new (((w.alloc (.cells #[.int .i64 (N:Int)] 3)).alloc (.cells #[.int .i64 a] 3)).alloc (.cells #[.int .i64 b] 3)) (.cells #[.int .i64 0,.int .i64 0,.slice none 0 0] 24);simp only[World.size_alloc] at h;exact h
   generalize ((((w.alloc (.cells #[.int .i64 (N:Int)] 3)).alloc (.cells #[.int .i64 a] 3)).alloc (.cells #[.int .i64 b] 3)).alloc (.cells #[.int .i64 0,.int .i64 0,.slice none 0 0] 24))=W0 at fsz fB fq0 fq1 fq2 fq3 ⊢
   obtain ⟨x0,xf,xl⟩:=c1_of fq0
   obtain ⟨y0,yf,yl⟩:=c1_of fq1
   obtain ⟨z0,zf,zl⟩:=c1_of fq2
   have FB:=Lib.hid fB
   have Q0:=Lib.hid fq0
   have Q1:=Lib.hid fq1
   have Q2:=Lib.hid fq2
   have Q3:=Lib.hid fq3
   clear fsz fq0 fq1 fq2 fq3
   refine wp_region_S (fun w'=>∃u,w'=over (W0) u) [13,12,11,10] [(0,0),(0,2),(0,3),(1,1),(1,4),(0,5),(0,6),(0,7),(1,8),(0,9),(2,10),(2,11),(2,12),(2,13)] (by kernel_rfl) (by kernel_rfl) (by exact ⟨_,below_over (by repeat (first|assumption|exact Below.refl _ _|refine keep_drew ?_|refine keep_alloc ?_ _|refine keep_trans ?_ (by assumption)))⟩) ?_
   dsimp only[pickOps,nthOp]
   repeat (first|(refine wpS_skip rfl (fun K hK=>?_);go_big_quiet_op;refine hK _ ?_;clear hK K)|(refine wpS_quiet rfl rfl (fun K hK=>?_);go_big_quiet_op;refine hK _ ?_;clear hK K)|(refine wpS_loud ?_;go_wp2_with (first|(go_at_call 125;refine (HO.out _).mono ?_;rintro _ w1 ⟨rfl,rfl⟩)|(go_at_call 127;with_reducible refine (HA.out _).mono ?_;rintro _ w2 ⟨rfl,rfl⟩)|(go_at_call 127;with_reducible refine (HB.out _).mono ?_;rintro _ w2 ⟨rfl,rfl⟩)|(go_at_call 93;refine (twhen_c _ _ _).mono ?_;rintro _ w3 ⟨rfl,rfl⟩)|(go_at_call 92;refine (tfirst_c _ _ _ _ _ ((IC.new2 _ _ _ _).mono (keep_drew (Below.refl _ _)))).mono ?_;rw[HF.out];rintro _ w4 ⟨rfl,rfl⟩));refine ⟨?_,?_⟩;focus (exact ⟨_,below_over (by repeat (first|assumption|exact Below.refl _ _|refine keep_drew ?_|refine keep_alloc ?_ _|refine keep_trans ?_ (by assumption)))⟩)))
   refine wpS_late _ _ _ rfl ?_
   dsimp only[List.map]
   go_wp2_with (first|(go_at_call 125;refine (HO.out _).mono ?_;rintro _ w1 ⟨rfl,rfl⟩)|(go_at_call 127;with_reducible refine (HA.out _).mono ?_;rintro _ w2 ⟨rfl,rfl⟩)|(go_at_call 127;with_reducible refine (HB.out _).mono ?_;rintro _ w2 ⟨rfl,rfl⟩)|(go_at_call 93;refine (twhen_c _ _ _).mono ?_;rintro _ w3 ⟨rfl,rfl⟩)|(go_at_call 92;refine (tfirst_c _ _ _ _ _ ((IC.new2 _ _ _ _).mono (keep_drew (Below.refl _ _)))).mono ?_;rw[HF.out];rintro _ w4 ⟨rfl,rfl⟩))
   refine NoPanic.normal ?_
   have hB9:Below W0.heap.size W0 (W0.alloc (.cells #[.int .i64 0,.int .i64 (whenV false 3)] 27)):=by (repeat (first|assumption|exact Below.refl _ _|refine keep_drew ?_|refine keep_alloc ?_ _|refine keep_trans ?_ (by assumption)))
   have HB9:=Lib.hid (keep_trans FB.out hB9)
   have Q9:=Lib.hid (keepq hB9 Q3.out)
   have P0:=Lib.hid (keepq hB9 Q0.out)
   have P1:=Lib.hid (keepq hB9 Q1.out)
   have P2:=Lib.hid (keepq hB9 Q2.out)
   clear hB9 x0 xf xl y0 yf yl z0 zf zl
   generalize (W0.alloc (.cells #[.int .i64 0,.int .i64 (whenV false 3)] 27))=W9 at HB9 Q9 P0 P1 P2 ⊢
   obtain ⟨x0,xf,xl⟩:=c1_of P0.out
   obtain ⟨z0,zf,zl⟩:=c1_of P1.out
   obtain ⟨u0,uf,ul⟩:=c1_of P2.out
   go_upto_region 6 with (first|(go_at_call 128;with_reducible refine (HGA.out _).mono ?_;rintro _ w5 ⟨rfl,hb5⟩)|fail)
   have hB6:Below W9.heap.size W9 w5:=by (repeat (first|assumption|exact Below.refl _ _|refine keep_drew ?_|refine keep_alloc ?_ _|refine keep_trans ?_ (by assumption)))
   have Q6:=Lib.hid (keepq hB6 Q9.out)
   have HB6:=Lib.hid (keep_trans HB9.out hB6)
   clear hB6
   obtain ⟨y0,y1,y2,yl⟩:=c3_of Q6.out
   obtain ⟨yf0,yf1,yf2⟩:=f3_of Q6.out
   go_wp2_with fail
   have g3:=st3_q (x0 := .int .i64 0) (x1 := .int .i64 0) (x2 := .slice none 0 0) Q6.out
   have hb3:=st3_below (x0 := .int .i64 0) (x1 := .int .i64 0) (x2 := .slice none 0 0) (b:=w.heap.size+1+1+1) HB6.out (by omega)
   obtain ⟨z0,z1,z2,zl⟩:=c3_of g3
   refine bodyPost_ret (v := .tuple #[.agg #[.int .i64 0,.int .i64 0,.slice none 0 0],.int .i64 (18)]) ?_ rfl ⟨none,0,rfl,World.ownsRow_nil _ _ _ _,(by first|exact hb3|exact hb3.drew)⟩
   simp[results,Tryz.f55,go_sem,z0,z1,z2]
 ·have hLE:linEr n a b=linE n a b:=by unfold linEr;rw[if_neg h1]
  have hne:linEr n a b≠0:=by rw[hLE];exact h1
  have hLL:linL n a b=[]:=if_neg hne
  rw[if_neg hne,hLL,hLE]
  exact linear_bad n a b w _ _ rfl rfl _ h1 rfl
end
section
open Go Go.RowKit
attribute [local go_sem] over_cell
attribute [local go_sem] Oper.semAt_some
theorem ckfield_bad (n:Int) (w:World) (er:Int) (he:ordE n=er) (h0:er≠0):Calls Tryz.prog 130 #[.int .i64 n] w fun e w'=>e = .returned (.tuple #[.agg #[.int .i64 0,.int .i64 0,.slice none 0 0],.int .i64 er])∧Below w.heap.size w w':=by
 have HO:=Lib.hid (fun W=>corder_c n W)
 rw[he] at HO
 have h0':(er != 0)=true:=by simpa using h0
 clear he h0
 go_enter Tryz.func130,Tryz.ntmps130
 go_upto_region 1 with fail
 have fsz:(w.alloc (.cells #[.int .i64 0,.int .i64 0,.slice none 0 0] 136)).heap.size=w.heap.size+1:=by simp only[World.size_alloc]
 have fB:Below w.heap.size w (w.alloc (.cells #[.int .i64 0,.int .i64 0,.slice none 0 0] 136)):=(Below.refl _ _).alloc (Nat.le_refl _) _
 have fq0:(w.alloc (.cells #[.int .i64 0,.int .i64 0,.slice none 0 0] 136)).heap[w.heap.size]?=some (.cells #[.int .i64 0,.int .i64 0,.slice none 0 0] 136 (0,0)):=by have h:=World.alloc_heap_new w (.cells #[.int .i64 0,.int .i64 0,.slice none 0 0] 136);exact h
 generalize (w.alloc (.cells #[.int .i64 0,.int .i64 0,.slice none 0 0] 136))=W0 at fsz fB fq0 ⊢
 obtain ⟨y0,y1,y2,yl⟩:=c3_of fq0
 obtain ⟨yf0,yf1,yf2⟩:=f3_of fq0
 go_wp2_with (first|(go_at_call 125;refine (HO.out _).mono ?_;rintro _ w1 ⟨rfl,rfl⟩)|fail)
 have g3:=st3_q (x0 := .int .i64 0) (x1 := .int .i64 0) (x2 := .slice none 0 0) fq0
 have hb3:=st3_below (x0 := .int .i64 0) (x1 := .int .i64 0) (x2 := .slice none 0 0) (b:=w.heap.size) fB (by omega)
 obtain ⟨z0,z1,z2,zl⟩:=c3_of g3
 refine bodyPost_ret (v := .tuple #[.agg #[.int .i64 0,.int .i64 0,.slice none 0 0],.int .i64 er]) ?_ rfl ⟨rfl,hb3⟩
 simp[results,Tryz.f130,go_sem,z0,z1,z2]
end
section
open Go Go.RowKit
attribute [local go_sem] over_cell
attribute [local go_sem] Oper.semAt_some
theorem family_bad (n:Int) (w:World) (er:Int) (h0:er≠0) (HK:∀W,Below w.heap.size w W→Calls Tryz.prog 130 #[.int .i64 n] W fun e w'=>∃(x0 x1:Int) (a:Option Addr) (m c:Nat),e = .returned (.tuple #[.agg #[.int .i64 x0,.int .i64 x1,.slice a m c],.int .i64 er])∧Below W.heap.size W w') :
  Calls Tryz.prog 57 #[.int .i64 n] w (GridsE w 0 [] er):=by
 have HK:=Lib.hid HK
 have h0':(er != 0)=true:=by simpa using h0
 clear h0
 go_enter Tryz.func57,Tryz.ntmps57
 go_wp2_with (first|(go_at_call 130;refine (HK.out _ (Below.refl _ _)).mono ?_;rintro _ w2 ⟨x0,x1,a5,m5,c5,rfl,hb2⟩)|fail)
 refine bodyPost_ret (v := .tuple #[.slice none 0 0,.int .i64 er]) ?_ rfl ⟨none,0,rfl,gl_nil _ _,by first|exact keep_alloc hb2 _|exact hb2⟩
 simp[results,Tryz.f57,go_sem]
end
end Go.Proofs.YtmfpdakaeagdpaaGreat
