/- Texts J84 to J102 of this proof, in one file. -/
import Derived.Test.YtmfpdakaeagdpaaGreatW01
import Derived.Test.YtmfpdakaeagdpaaGreatW02
import Derived.Test.YtmfpdakaeagdpaaGreatW03
import Derived.Test.YtmfpdakaeagdpaaGreatW04
import Derived.Test.YtmfpdakaeagdpaaGreatW05
import Derived.Test.YtmfpdakaeagdpaaGreatW06
import Derived.Test.YtmfpdakaeagdpaaGreatW07
import Derived.Test.YtmfpdakaeagdpaaGreatW08
import Derived.Test.YtmfpdakaeagdpaaGreatW09
import Derived.Test.YtmfpdakaeagdpaaGreatW10
import Derived.Test.YtmfpdakaeagdpaaGreatW11
import Derived.Test.YtmfpdakaeagdpaaGreatW12
import Derived.Test.YtmfpdakaeagdpaaGreatW13
import Derived.Test.YtmfpdakaeagdpaaGreatW14
import Derived.Test.YtmfpdakaeagdpaaGreatW15
import Derived.Test.YtmfpdakaeagdpaaGreatW16
import Derived.Test.YtmfpdakaeagdpaaGreatW17
import Derived.Test.YtmfpdakaeagdpaaGreatW18
import Derived.Test.YtmfpdakaeagdpaaGreatW19
import Derived.Test.YtmfpdakaeagdpaaGreatW20
import Derived.Test.YtmfpdakaeagdpaaGreatW21
import Derived.Test.YtmfpdakaeagdpaaGreatW22
import Derived.Test.YtmfpdakaeagdpaaGreatW23
import Derived.Test.YtmfpdakaeagdpaaGreatW24
import Derived.Test.YtmfpdakaeagdpaaGreatW25
import Derived.Test.YtmfpdakaeagdpaaGreatW26
import Derived.Test.YtmfpdakaeagdpaaGreatW27
import Derived.Test.YtmfpdakaeagdpaaGreatX29n01
import Derived.Below
import Derived.BigFrame
import Derived.BigQuiet
import Derived.Deep.CutBlock
import Derived.Deep.CutRange
import Derived.Deep.LoopGhost
import Derived.Deep.Quiet
import Derived.Deep.RegionHeld3
import Derived.DeepKeys4
import Derived.KernelRfl
import Derived.Laws.BitsAllLaws
import Derived.Laws.EntriesVeiled
import Derived.Lib.Hide
import Derived.Lib.SliceRun
import Derived.LoopIn
import Derived.LoopNIn
import Derived.Maps.AppendAt
import Derived.Maps.OwnIn
import Derived.Maps.OwnSet
import Derived.OneCell
import Derived.OrdersHeld
import Derived.OrdersIn
import Derived.OwnWalkIn
import Derived.RangeFuncBound
import Derived.RangeFuncCalls
import Derived.RangeFuncLeaves
import Derived.RangeFuncNested
import Derived.Shelf.Abstract
import Derived.Still
import Derived.TacticsIn
import Derived.TacticsInMore
import Derived.Test.YtmfpdakaeagdpaaGreatProg
import Derived.WalkKit
import Derived.WalkLawsBesides
import Derived.WalkSpells
import Derived.WideKeyPair
namespace Go.Proofs.YtmfpdakaeagdpaaGreat
set_option maxRecDepth 100000
set_option maxHeartbeats 16000000
section
open Go Go.RowKit
attribute [local go_sem] over_cell
attribute [local go_sem] Oper.semAt_some
def proS (N M:Nat) (cs ds:List Int) (i j:Nat):Int:=(M:Int)*cs[i / M*N+j / M]?.getD 0+ds[i % M*M+j % M]?.getD 0
theorem enterPro:∀args w,Sem.run Tryz.prog (callFunc 143 args) w = .ok (.enter 143 args) w:=by
 intro args w;kernel_rfl
theorem latAt {N i j:Nat} {cs:List Int} (L:Latin N cs) (hi:i<N) (hj:j<N):∃X:Nat,cs[i*N+j]?.getD 0=(X:Int)∧X<N:=by
 have hlt:i*N+j<cs.length:=by rw[L.len];exact gcell_lt hi hj
 have:=L.num _ (List.getElem_mem hlt)
 rw[List.getElem?_eq_getElem hlt,Option.getD_some]
 exact ⟨(cs[i*N+j]).toNat,by omega,by omega⟩
theorem pro1_c (N M i j bm bl b2:Nat) (a a':Option Addr) (m c m' c':Nat) (cs ds:List Int) (w:World) (h:IC w a m cs) (h':IC w a' m' ds) (L:Latin N cs) (L':Latin M ds) (hi:i<N*M) (hj:j<N*M)
  (qm:w.heap[bm]?=some (.cells #[.int .i64 (M:Int)] 3 (0,0)))
  (q:w.heap[bl]?=some (.cells #[.int .i64 (N:Int),.int .i64 (N:Int),.slice a m c] 24 (0,0)))
  (q':w.heap[b2]?=some (.cells #[.int .i64 (M:Int),.int .i64 (M:Int),.slice a' m' c'] 24 (0,0))) :
  Calls Tryz.prog 143 #[.int .i64 (i:Int),.int .i64 (j:Int),.pointer (some ⟨bm,0,none⟩),.pointer (some ⟨bl,0,none⟩),.pointer (some ⟨b2,0,none⟩)] w fun e w'=>e = .returned (.int .i64 (proS N M cs ds i j))∧Below w.heap.size w w':=by
 have hN1:=L.pos
 have hN2:=L.le
 have hM1:=L'.pos
 have hM2:=L'.le
 have hm:m=N*N:=by rw[← h.len];exact L.len
 have hm':m'=M*M:=by rw[← h'.len];exact L'.len
 have hNM:N*M≤16*16:=Nat.mul_le_mul hN2 hM2
 have hi4:i<256:=by omega
 have hj4:j<256:=by omega
 have k1:i / M<N:=Nat.div_lt_of_lt_mul (by rw[Nat.mul_comm];exact hi)
 have k2:j / M<N:=Nat.div_lt_of_lt_mul (by rw[Nat.mul_comm];exact hj)
 have k3:i % M<M:=Nat.mod_lt _ (by omega)
 have k4:j % M<M:=Nat.mod_lt _ (by omega)
 obtain ⟨u0,uf,ul⟩:=c1_of qm
 obtain ⟨x0,x1,x2,xl⟩:=c3_of q
 obtain ⟨y0,y1,y2,yl⟩:=c3_of q'
 obtain ⟨X,hX,hXN⟩:=latAt L k1 k2
 obtain ⟨Y,hY,hYM⟩:=latAt L' k3 k4
 have hS:proS N M cs ds i j=(M:Int)*(X:Int)+(Y:Int):=by unfold proS;rw[hX,hY]
 have H1:∀W,Below w.heap.size w W→Calls Tryz.prog 116 #[.agg #[.int .i64 (N:Int),.int .i64 (N:Int),.slice a m c],.int .i64 ((i / M:Nat):Int),.int .i64 ((j / M:Nat):Int)] W fun e w'=>e = .returned (.int .i64 (X:Int))∧Below W.heap.size W w':=fun W hb=>by
  rw[← hX];exact lat_c (N:Int) N (i / M) (j / M) a m c cs W (h.mono hb) (by omega) (by omega) k2 (by rw[hm];exact gcell_lt k1 k2)
 have H2:∀W,Below w.heap.size w W→Calls Tryz.prog 116 #[.agg #[.int .i64 (M:Int),.int .i64 (M:Int),.slice a' m' c'],.int .i64 ((i % M:Nat):Int),.int .i64 ((j % M:Nat):Int)] W fun e w'=>e = .returned (.int .i64 (Y:Int))∧Below W.heap.size W w':=fun W hb=>by
  rw[← hY];exact lat_c (M:Int) M (i % M) (j % M) a' m' c' ds W (h'.mono hb) (by omega) (by omega) k4 (by rw[hm'];exact gcell_lt k3 k4)
 have e1:(i:Int) / (M:Int)=((i / M:Nat):Int):=(Int.natCast_ediv _ _).symm
 have e2:(j:Int) / (M:Int)=((j / M:Nat):Int):=(Int.natCast_ediv _ _).symm
 have e3:(i:Int) % (M:Int)=((i % M:Nat):Int):=(Int.natCast_emod _ _).symm
 have e4:(j:Int) % (M:Int)=((j % M:Nat):Int):=(Int.natCast_emod _ _).symm
 have hp1:M*X≤16*16:=Nat.mul_le_mul hM2 (by omega)
 have e5:(M:Int)*(X:Int)=((M*X:Nat):Int):=(Int.natCast_mul _ _).symm
 rw[e5] at hS
 have hne:(M:Int)≠0:=by omega
 have HS:=Lib.hid hS
 clear hX hY hS
 have d1:=Nat.div_le_self i M
 have d2:=Nat.div_le_self j M
 generalize i / M=i1 at e1 H1 k1 d1
 generalize j / M=j1 at e2 H1 k2 d2
 generalize i % M=i2 at e3 H2 k3
 generalize j % M=j2 at e4 H2 k4
 generalize M*X=p at e5 hp1 HS
 generalize proS N M cs ds i j=D at HS ⊢
 have H1:=Lib.hid H1
 have H2:=Lib.hid H2
 clear h h' hm hm' q q' qm L L' hi hj hNM
 go_enter Tryz.func143,Tryz.ntmps143
 go_upto_region 1 with fail
 refine wp_region_S (fun w'=>∃u,w'=over (w) u) [19] [(0,0),(0,1),(0,2),(0,3),(0,4),(0,5),(0,6),(0,7),(0,10),(0,11),(0,12),(0,13),(0,14),(0,15),(0,16),(1,8),(0,9),(1,17),(0,18),(2,19)] (by kernel_rfl) (by kernel_rfl) (by exact ⟨_,below_over (by repeat (first|assumption|exact Below.refl _ _|refine keep_drew ?_|refine keep_alloc ?_ _|refine keep_trans ?_ (by assumption)))⟩) ?_
 dsimp only[pickOps,nthOp]
 repeat (first|(refine wpS_skip rfl (fun K hK=>?_);go_big_quiet_op;refine hK _ ?_;clear hK K)|(refine wpS_quiet rfl rfl (fun K hK=>?_);go_big_quiet_op;refine hK _ ?_;clear hK K)|(refine wpS_loud ?_;go_wp2_with (first|(go_at_call 116;with_reducible refine (H1.out _ (by (repeat (first|assumption|exact Below.refl _ _|refine keep_drew ?_|refine keep_alloc ?_ _|refine keep_trans ?_ (by assumption))))).mono ?_;rintro _ w2 ⟨rfl,hb4⟩)|(go_at_call 116;with_reducible refine (H2.out _ (by (repeat (first|assumption|exact Below.refl _ _|refine keep_drew ?_|refine keep_alloc ?_ _|refine keep_trans ?_ (by assumption))))).mono ?_;rintro _ w3 ⟨rfl,hb5⟩)|fail);refine ⟨?_,?_⟩;focus (exact ⟨_,below_over (by repeat (first|assumption|exact Below.refl _ _|refine keep_drew ?_|refine keep_alloc ?_ _|refine keep_trans ?_ (by assumption)))⟩)))
 refine wpS_late _ _ _ rfl ?_
 dsimp only[List.map]
 go_wp2_with (first|(go_at_call 116;with_reducible refine (H1.out _ (by (repeat (first|assumption|exact Below.refl _ _|refine keep_drew ?_|refine keep_alloc ?_ _|refine keep_trans ?_ (by assumption))))).mono ?_;rintro _ w2 ⟨rfl,hb4⟩)|(go_at_call 116;with_reducible refine (H2.out _ (by (repeat (first|assumption|exact Below.refl _ _|refine keep_drew ?_|refine keep_alloc ?_ _|refine keep_trans ?_ (by assumption))))).mono ?_;rintro _ w3 ⟨rfl,hb5⟩)|fail)
 refine NoPanic.normal ?_
 go_wp2_with fail
 refine bodyPost_ret (v := .int .i64 ((p:Int)+(Y:Int))) ?_ rfl ⟨by rw[HS.out],show Below w.heap.size w w3 by (repeat (first|assumption|exact Below.refl _ _|refine keep_drew ?_|refine keep_alloc ?_ _|refine keep_trans ?_ (by assumption)))⟩
 simp[results,Tryz.f143,go_sem]
def proE (r C:Int) (cs:List Int) (r2 C2:Int) (ds:List Int):Int:=if firstL [sqE 0 r C cs,sqE 0 r2 C2 ds]=0 then (if 16<r*r2 then 20 else 0) else firstL [sqE 0 r C cs,sqE 0 r2 C2 ds]
def proL (r C:Int) (cs:List Int) (r2 C2:Int) (ds:List Int):List Int:=if proE r C cs r2 C2 ds=0 then madeTo (r.toNat*r2.toNat) (proS r.toNat r2.toNat cs ds) (r.toNat*r2.toNat*(r.toNat*r2.toNat)) else []
theorem product_bad (r C:Int) (a:Option Addr) (m c:Nat) (cs:List Int) (r2 C2:Int) (a':Option Addr) (m' c':Nat) (ds:List Int) (w:World) (h:IC w a m cs) (h':IC w a' m' ds) (er:Int) (he:firstL [sqE 0 r C cs,sqE 0 r2 C2 ds]=er) (h0:er≠0) :
  Calls Tryz.prog 71 #[.agg #[.int .i64 r,.int .i64 C,.slice a m c],.agg #[.int .i64 r2,.int .i64 C2,.slice a' m' c']] w (GridE w 0 0 [] er):=by
 have HKA:=Lib.hid (fun W (hb:Below w.heap.size w W)=>latcheck_c r C a m c cs W (h.mono hb))
 have HKB:=Lib.hid (fun W (hb:Below w.heap.size w W)=>latcheck_c r2 C2 a' m' c' ds W (h'.mono hb))
 have HF:=Lib.hid he
 have h0':(er != 0)=true:=by simpa using h0
 clear he h h' h0
 go_enter Tryz.func71,Tryz.ntmps71
 go_upto_region 1 with fail
 have fsz:(((w.alloc (.cells #[.int .i64 r,.int .i64 C,.slice a m c] 24)).alloc (.cells #[.int .i64 r2,.int .i64 C2,.slice a' m' c'] 24)).alloc (.cells #[.int .i64 0,.int .i64 0,.slice none 0 0] 24)).heap.size=w.heap.size+3:=by simp only[World.size_alloc] <;> omega
 have fB:Below w.heap.size w (((w.alloc (.cells #[.int .i64 r,.int .i64 C,.slice a m c] 24)).alloc (.cells #[.int .i64 r2,.int .i64 C2,.slice a' m' c'] 24)).alloc (.cells #[.int .i64 0,.int .i64 0,.slice none 0 0] 24)):=(((Below.refl _ _).alloc (Nat.le_refl _) _).alloc (by simp only[World.size_alloc];omega) _).alloc (by simp only[World.size_alloc];omega) _
 have fq0:(((w.alloc (.cells #[.int .i64 r,.int .i64 C,.slice a m c] 24)).alloc (.cells #[.int .i64 r2,.int .i64 C2,.slice a' m' c'] 24)).alloc (.cells #[.int .i64 0,.int .i64 0,.slice none 0 0] 24)).heap[w.heap.size]?=some (.cells #[.int .i64 r,.int .i64 C,.slice a m c] 24 (0,0)):=by have h:=World.alloc_heap_new w (.cells #[.int .i64 r,.int .i64 C,.slice a m c] 24);exact (Below.heap_alloc _ _ _ (by simp only[World.size_alloc];omega)).trans ((Below.heap_alloc _ _ _ (by simp only[World.size_alloc];omega)).trans (h))
 have fq1:(((w.alloc (.cells #[.int .i64 r,.int .i64 C,.slice a m c] 24)).alloc (.cells #[.int .i64 r2,.int .i64 C2,.slice a' m' c'] 24)).alloc (.cells #[.int .i64 0,.int .i64 0,.slice none 0 0] 24)).heap[w.heap.size+1]?=some (.cells #[.int .i64 r2,.int .i64 C2,.slice a' m' c'] 24 (0,0)):=by have h:=World.alloc_heap_new (w.alloc (.cells #[.int .i64 r,.int .i64 C,.slice a m c] 24)) (.cells #[.int .i64 r2,.int .i64 C2,.slice a' m' c'] 24);simp only[World.size_alloc] at h;exact (Below.heap_alloc _ _ _ (by simp only[World.size_alloc];omega)).trans (h)
 have fq2:(((w.alloc (.cells #[.int .i64 r,.int .i64 C,.slice a m c] 24)).alloc (.cells #[.int .i64 r2,.int .i64 C2,.slice a' m' c'] 24)).alloc (.cells #[.int .i64 0,.int .i64 0,.slice none 0 0] 24)).heap[w.heap.size+1+1]?=some (.cells #[.int .i64 0,.int .i64 0,.slice none 0 0] 24 (0,0)):=by have h:=World.alloc_heap_new ((w.alloc (.cells #[.int .i64 r,.int .i64 C,.slice a m c] 24)).alloc (.cells #[.int .i64 r2,.int .i64 C2,.slice a' m' c'] 24)) (.cells #[.int .i64 0,.int .i64 0,.slice none 0 0] 24);simp only[World.size_alloc] at h;exact h
 generalize (((w.alloc (.cells #[.int .i64 r,.int .i64 C,.slice a m c] 24)).alloc (.cells #[.int .i64 r2,.int .i64 C2,.slice a' m' c'] 24)).alloc (.cells #[.int .i64 0,.int .i64 0,.slice none 0 0] 24))=W0 at fsz fB fq0 fq1 fq2 ⊢
 obtain ⟨x0,x1,x2,xl⟩:=c3_of fq0
 obtain ⟨y0,y1,y2,yl⟩:=c3_of fq1
 have FB:=Lib.hid fB
 have Q0:=Lib.hid fq0
 have Q1:=Lib.hid fq1
 have Q2:=Lib.hid fq2
 clear fsz fq0 fq1 fq2
 refine wp_region_S (fun w'=>∃u,w'=over (W0) u) [6,5,4,3] [(0,0),(0,2),(1,1),(2,3),(2,4),(2,5),(2,6)] (by kernel_rfl) (by kernel_rfl) (by exact ⟨_,below_over (by repeat (first|assumption|exact Below.refl _ _|refine keep_drew ?_|refine keep_alloc ?_ _|refine keep_trans ?_ (by assumption)))⟩) ?_
 dsimp only[pickOps,nthOp]
 repeat (first|(refine wpS_skip rfl (fun K hK=>?_);go_big_quiet_op;refine hK _ ?_;clear hK K)|(refine wpS_quiet rfl rfl (fun K hK=>?_);go_big_quiet_op;refine hK _ ?_;clear hK K)|(refine wpS_loud ?_;go_wp2_with (first|(go_at_call 58;with_reducible refine (HKA.out _ (keep_trans fB (by (repeat (first|assumption|exact Below.refl _ _|refine keep_drew ?_|refine keep_alloc ?_ _|refine keep_trans ?_ (by assumption)))))).mono ?_;rintro _ w1 ⟨rfl,hb1⟩)|(go_at_call 58;with_reducible refine (HKB.out _ (keep_trans fB (by (repeat (first|assumption|exact Below.refl _ _|refine keep_drew ?_|refine keep_alloc ?_ _|refine keep_trans ?_ (by assumption)))))).mono ?_;rintro _ w2 ⟨rfl,hb2⟩)|(go_at_call 92;refine (tfirst_c _ _ _ _ _ (IC.new2 _ _ _ _)).mono ?_;rw[HF.out];rintro _ w3 ⟨rfl,rfl⟩)|fail);refine ⟨?_,?_⟩;focus (exact ⟨_,below_over (by repeat (first|assumption|exact Below.refl _ _|refine keep_drew ?_|refine keep_alloc ?_ _|refine keep_trans ?_ (by assumption)))⟩)))
 refine wpS_late _ _ _ rfl ?_
 dsimp only[List.map]
 go_wp2_with (first|(go_at_call 58;with_reducible refine (HKA.out _ (keep_trans fB (by (repeat (first|assumption|exact Below.refl _ _|refine keep_drew ?_|refine keep_alloc ?_ _|refine keep_trans ?_ (by assumption)))))).mono ?_;rintro _ w1 ⟨rfl,hb1⟩)|(go_at_call 58;with_reducible refine (HKB.out _ (keep_trans fB (by (repeat (first|assumption|exact Below.refl _ _|refine keep_drew ?_|refine keep_alloc ?_ _|refine keep_trans ?_ (by assumption)))))).mono ?_;rintro _ w2 ⟨rfl,hb2⟩)|(go_at_call 92;refine (tfirst_c _ _ _ _ _ (IC.new2 _ _ _ _)).mono ?_;rw[HF.out];rintro _ w3 ⟨rfl,rfl⟩)|fail)
 refine NoPanic.normal ?_
 have hB2:Below W0.heap.size W0 (w2.alloc (.cells #[.int .i64 (sqE 0 r C cs),.int .i64 (sqE 0 r2 C2 ds)] 27)):=by (repeat (first|assumption|exact Below.refl _ _|refine keep_drew ?_|refine keep_alloc ?_ _|refine keep_trans ?_ (by assumption)))
 have HB2:=Lib.hid (keep_trans FB.out hB2)
 have P0:=Lib.hid (keepq hB2 Q0.out)
 have P1:=Lib.hid (keepq hB2 Q1.out)
 have P2:=Lib.hid (keepq hB2 Q2.out)
 clear hB2 hb1 hb2 fB x0 x1 x2 xl y0 y1 y2 yl
 generalize (w2.alloc (.cells #[.int .i64 (sqE 0 r C cs),.int .i64 (sqE 0 r2 C2 ds)] 27))=W2 at HB2 P0 P1 P2 ⊢
 obtain ⟨y0,y1,y2,yl⟩:=c3_of P2.out
 obtain ⟨yf0,yf1,yf2⟩:=f3_of P2.out
 go_wp2_with fail
 have g3:=st3_q (x0 := .int .i64 0) (x1 := .int .i64 0) (x2 := .slice none 0 0) P2.out
 have hb3:=st3_below (x0 := .int .i64 0) (x1 := .int .i64 0) (x2 := .slice none 0 0) (b:=w.heap.size+1+1) HB2.out (by omega)
 obtain ⟨z0,z1,z2,zl⟩:=c3_of g3
 refine bodyPost_ret (v := .tuple #[.agg #[.int .i64 0,.int .i64 0,.slice none 0 0],.int .i64 (er)]) ?_ rfl ⟨none,0,rfl,World.ownsRow_nil _ _ _ _,(by first|exact hb3|exact hb3.drew)⟩
 simp[results,Tryz.f71,go_sem,z0,z1,z2]
theorem product_big (N M:Nat) (a:Option Addr) (m c:Nat) (cs:List Int) (a':Option Addr) (m' c':Nat) (ds:List Int) (w:World) (h:IC w a m cs) (h':IC w a' m' ds) (hA:sqE 0 (N:Int) (N:Int) cs=0) (hB:sqE 0 (M:Int) (M:Int) ds=0) (hN:N≤16) (hM:M≤16) (hbig:16<N*M) :
  Calls Tryz.prog 71 #[.agg #[.int .i64 (N:Int),.int .i64 (N:Int),.slice a m c],.agg #[.int .i64 (M:Int),.int .i64 (M:Int),.slice a' m' c']] w (GridE w 0 0 [] 20):=by
 have HKA:=Lib.hid (fun W (hb:Below w.heap.size w W)=>latcheck_c (N:Int) (N:Int) a m c cs W (h.mono hb))
 have HKB:=Lib.hid (fun W (hb:Below w.heap.size w W)=>latcheck_c (M:Int) (M:Int) a' m' c' ds W (h'.mono hb))
 have HF:=Lib.hid (show firstL [sqE 0 (N:Int) (N:Int) cs,sqE 0 (M:Int) (M:Int) ds]=0 by rw[hA,hB];rfl)
 have hNM:N*M≤16*16:=Nat.mul_le_mul hN hM
 have e5:(N:Int)*(M:Int)=((N*M:Nat):Int):=(Int.natCast_mul _ _).symm
 generalize N*M=p at e5 hNM hbig
 have hp:(16:Int)<(p:Int):=by omega
 clear h h' hA hB hbig
 go_enter Tryz.func71,Tryz.ntmps71
 go_upto_region 1 with fail
 have fsz:(((w.alloc (.cells #[.int .i64 (N:Int),.int .i64 (N:Int),.slice a m c] 24)).alloc (.cells #[.int .i64 (M:Int),.int .i64 (M:Int),.slice a' m' c'] 24)).alloc (.cells #[.int .i64 0,.int .i64 0,.slice none 0 0] 24)).heap.size=w.heap.size+3:=by simp only[World.size_alloc] <;> omega
 have fB:Below w.heap.size w (((w.alloc (.cells #[.int .i64 (N:Int),.int .i64 (N:Int),.slice a m c] 24)).alloc (.cells #[.int .i64 (M:Int),.int .i64 (M:Int),.slice a' m' c'] 24)).alloc (.cells #[.int .i64 0,.int .i64 0,.slice none 0 0] 24)):=(((Below.refl _ _).alloc (Nat.le_refl _) _).alloc (by simp only[World.size_alloc];omega) _).alloc (by simp only[World.size_alloc];omega) _
 have fq0:(((w.alloc (.cells #[.int .i64 (N:Int),.int .i64 (N:Int),.slice a m c] 24)).alloc (.cells #[.int .i64 (M:Int),.int .i64 (M:Int),.slice a' m' c'] 24)).alloc (.cells #[.int .i64 0,.int .i64 0,.slice none 0 0] 24)).heap[w.heap.size]?=some (.cells #[.int .i64 (N:Int),.int .i64 (N:Int),.slice a m c] 24 (0,0)):=by have h:=World.alloc_heap_new w (.cells #[.int .i64 (N:Int),.int .i64 (N:Int),.slice a m c] 24);exact (Below.heap_alloc _ _ _ (by simp only[World.size_alloc];omega)).trans ((Below.heap_alloc _ _ _ (by simp only[World.size_alloc];omega)).trans (h))
 have fq1:(((w.alloc (.cells #[.int .i64 (N:Int),.int .i64 (N:Int),.slice a m c] 24)).alloc (.cells #[.int .i64 (M:Int),.int .i64 (M:Int),.slice a' m' c'] 24)).alloc (.cells #[.int .i64 0,.int .i64 0,.slice none 0 0] 24)).heap[w.heap.size+1]?=some (.cells #[.int .i64 (M:Int),.int .i64 (M:Int),.slice a' m' c'] 24 (0,0)):=by have h:=World.alloc_heap_new (w.alloc (.cells #[.int .i64 (N:Int),.int .i64 (N:Int),.slice a m c] 24)) (.cells #[.int .i64 (M:Int),.int .i64 (M:Int),.slice a' m' c'] 24);simp only[World.size_alloc] at h;exact (Below.heap_alloc _ _ _ (by simp only[World.size_alloc];omega)).trans (h)
 have fq2:(((w.alloc (.cells #[.int .i64 (N:Int),.int .i64 (N:Int),.slice a m c] 24)).alloc (.cells #[.int .i64 (M:Int),.int .i64 (M:Int),.slice a' m' c'] 24)).alloc (.cells #[.int .i64 0,.int .i64 0,.slice none 0 0] 24)).heap[w.heap.size+1+1]?=some (.cells #[.int .i64 0,.int .i64 0,.slice none 0 0] 24 (0,0)):=by have h:=World.alloc_heap_new ((w.alloc (.cells #[.int .i64 (N:Int),.int .i64 (N:Int),.slice a m c] 24)).alloc (.cells #[.int .i64 (M:Int),.int .i64 (M:Int),.slice a' m' c'] 24)) (.cells #[.int .i64 0,.int .i64 0,.slice none 0 0] 24);simp only[World.size_alloc] at h;exact h
 generalize (((w.alloc (.cells #[.int .i64 (N:Int),.int .i64 (N:Int),.slice a m c] 24)).alloc (.cells #[.int .i64 (M:Int),.int .i64 (M:Int),.slice a' m' c'] 24)).alloc (.cells #[.int .i64 0,.int .i64 0,.slice none 0 0] 24))=W0 at fsz fB fq0 fq1 fq2 ⊢
 obtain ⟨x0,x1,x2,xl⟩:=c3_of fq0
 obtain ⟨y0,y1,y2,yl⟩:=c3_of fq1
 have FB:=Lib.hid fB
 have Q0:=Lib.hid fq0
 have Q1:=Lib.hid fq1
 have Q2:=Lib.hid fq2
 clear fsz fq0 fq1 fq2
 refine wp_region_S (fun w'=>∃u,w'=over (W0) u) [6,5,4,3] [(0,0),(0,2),(1,1),(2,3),(2,4),(2,5),(2,6)] (by kernel_rfl) (by kernel_rfl) (by exact ⟨_,below_over (by repeat (first|assumption|exact Below.refl _ _|refine keep_drew ?_|refine keep_alloc ?_ _|refine keep_trans ?_ (by assumption)))⟩) ?_
 dsimp only[pickOps,nthOp]
 repeat (first|(refine wpS_skip rfl (fun K hK=>?_);go_big_quiet_op;refine hK _ ?_;clear hK K)|(refine wpS_quiet rfl rfl (fun K hK=>?_);go_big_quiet_op;refine hK _ ?_;clear hK K)|(refine wpS_loud ?_;go_wp2_with (first|(go_at_call 58;with_reducible refine (HKA.out _ (keep_trans fB (by (repeat (first|assumption|exact Below.refl _ _|refine keep_drew ?_|refine keep_alloc ?_ _|refine keep_trans ?_ (by assumption)))))).mono ?_;rintro _ w1 ⟨rfl,hb1⟩)|(go_at_call 58;with_reducible refine (HKB.out _ (keep_trans fB (by (repeat (first|assumption|exact Below.refl _ _|refine keep_drew ?_|refine keep_alloc ?_ _|refine keep_trans ?_ (by assumption)))))).mono ?_;rintro _ w2 ⟨rfl,hb2⟩)|(go_at_call 92;refine (tfirst_c _ _ _ _ _ (IC.new2 _ _ _ _)).mono ?_;rw[HF.out];rintro _ w3 ⟨rfl,rfl⟩)|fail);refine ⟨?_,?_⟩;focus (exact ⟨_,below_over (by repeat (first|assumption|exact Below.refl _ _|refine keep_drew ?_|refine keep_alloc ?_ _|refine keep_trans ?_ (by assumption)))⟩)))
 refine wpS_late _ _ _ rfl ?_
 dsimp only[List.map]
 go_wp2_with (first|(go_at_call 58;with_reducible refine (HKA.out _ (keep_trans fB (by (repeat (first|assumption|exact Below.refl _ _|refine keep_drew ?_|refine keep_alloc ?_ _|refine keep_trans ?_ (by assumption)))))).mono ?_;rintro _ w1 ⟨rfl,hb1⟩)|(go_at_call 58;with_reducible refine (HKB.out _ (keep_trans fB (by (repeat (first|assumption|exact Below.refl _ _|refine keep_drew ?_|refine keep_alloc ?_ _|refine keep_trans ?_ (by assumption)))))).mono ?_;rintro _ w2 ⟨rfl,hb2⟩)|(go_at_call 92;refine (tfirst_c _ _ _ _ _ (IC.new2 _ _ _ _)).mono ?_;rw[HF.out];rintro _ w3 ⟨rfl,rfl⟩)|fail)
 refine NoPanic.normal ?_
 have hB2:Below W0.heap.size W0 (w2.alloc (.cells #[.int .i64 (sqE 0 (N:Int) (N:Int) cs),.int .i64 (sqE 0 (M:Int) (M:Int) ds)] 27)):=by (repeat (first|assumption|exact Below.refl _ _|refine keep_drew ?_|refine keep_alloc ?_ _|refine keep_trans ?_ (by assumption)))
 have HB2:=Lib.hid (keep_trans FB.out hB2)
 have P0:=Lib.hid (keepq hB2 Q0.out)
 have P1:=Lib.hid (keepq hB2 Q1.out)
 have P2:=Lib.hid (keepq hB2 Q2.out)
 clear hB2 hb1 hb2 fB x0 x1 x2 xl y0 y1 y2 yl
 generalize (w2.alloc (.cells #[.int .i64 (sqE 0 (N:Int) (N:Int) cs),.int .i64 (sqE 0 (M:Int) (M:Int) ds)] 27))=W2 at HB2 P0 P1 P2 ⊢
 obtain ⟨x0,x1,x2,xl⟩:=c3_of P0.out
 obtain ⟨z0,z1,z2,zl⟩:=c3_of P1.out
 obtain ⟨y0,y1,y2,yl⟩:=c3_of P2.out
 obtain ⟨yf0,yf1,yf2⟩:=f3_of P2.out
 go_upto_region 5 with fail
 have gsz:(W2.alloc (.cells #[.int .i64 (M:Int)] 3)).heap.size=W2.heap.size+1:=by simp only[World.size_alloc]
 have gB:Below W2.heap.size W2 (W2.alloc (.cells #[.int .i64 (M:Int)] 3)):=(Below.refl _ _).alloc (Nat.le_refl _) _
 have gq0:(W2.alloc (.cells #[.int .i64 (M:Int)] 3)).heap[W2.heap.size]?=some (.cells #[.int .i64 (M:Int)] 3 (0,0)):=by have h:=World.alloc_heap_new W2 (.cells #[.int .i64 (M:Int)] 3);exact h
 generalize (W2.alloc (.cells #[.int .i64 (M:Int)] 3))=W3 at gsz gB gq0 ⊢
 have HB3:=Lib.hid (keep_trans HB2.out gB)
 have R0:=Lib.hid (keepq gB P0.out)
 have R1:=Lib.hid (keepq gB P1.out)
 have R2:=Lib.hid (keepq gB P2.out)
 have R3:=Lib.hid gq0
 clear x0 x1 x2 xl y0 y1 y2 yl z0 z1 z2 zl yf0 yf1 yf2 gsz gB gq0
 obtain ⟨u0,uf,ul⟩:=c1_of R3.out
 obtain ⟨x0,x1,x2,xl⟩:=c3_of R0.out
 obtain ⟨y0,y1,y2,yl⟩:=c3_of R2.out
 obtain ⟨yf0,yf1,yf2⟩:=f3_of R2.out
 go_wp2_with fail
 have g3:=st3_q (x0 := .int .i64 0) (x1 := .int .i64 0) (x2 := .slice none 0 0) R2.out
 have hb3:=st3_below (x0 := .int .i64 0) (x1 := .int .i64 0) (x2 := .slice none 0 0) (b:=w.heap.size+1+1) HB3.out (by omega)
 obtain ⟨z0,z1,z2,zl⟩:=c3_of g3
 refine bodyPost_ret (v := .tuple #[.agg #[.int .i64 0,.int .i64 0,.slice none 0 0],.int .i64 (20)]) ?_ rfl ⟨none,0,rfl,World.ownsRow_nil _ _ _ _,(by first|exact hb3|exact hb3.drew)⟩
 simp[results,Tryz.f71,go_sem,z0,z1,z2]
theorem product_ok (N M:Nat) (a:Option Addr) (m c:Nat) (cs:List Int) (a':Option Addr) (m' c':Nat) (ds:List Int) (w:World) (h:IC w a m cs) (h':IC w a' m' ds) (hA:sqE 0 (N:Int) (N:Int) cs=0) (hB:sqE 0 (M:Int) (M:Int) ds=0) (L:Latin N cs) (L':Latin M ds) (hle:N*M≤16) :
  Calls Tryz.prog 71 #[.agg #[.int .i64 (N:Int),.int .i64 (N:Int),.slice a m c],.agg #[.int .i64 (M:Int),.int .i64 (M:Int),.slice a' m' c']] w (GridE w ((N*M:Nat):Int) ((N*M:Nat):Int) (madeTo (N*M) (proS N M cs ds) (N*M*(N*M))) 0):=by
 have HKA:=Lib.hid (fun W (hb:Below w.heap.size w W)=>latcheck_c (N:Int) (N:Int) a m c cs W (h.mono hb))
 have HKB:=Lib.hid (fun W (hb:Below w.heap.size w W)=>latcheck_c (M:Int) (M:Int) a' m' c' ds W (h'.mono hb))
 have HF:=Lib.hid (show firstL [sqE 0 (N:Int) (N:Int) cs,sqE 0 (M:Int) (M:Int) ds]=0 by rw[hA,hB];rfl)
 have e5:(N:Int)*(M:Int)=((N*M:Nat):Int):=(Int.natCast_mul _ _).symm
 obtain ⟨es,hes⟩:∃es,es=madeTo (N*M) (proS N M cs ds) (N*M*(N*M)):=⟨_,rfl⟩
 rw[← hes]
 have HK1:Hid (∀bm bl b2 W,Below w.heap.size w W→W.heap[bm]?=some (.cells #[.int .i64 (M:Int)] 3 (0,0))→W.heap[bl]?=some (.cells #[.int .i64 (N:Int),.int .i64 (N:Int),.slice a m c] 24 (0,0))→W.heap[b2]?=some (.cells #[.int .i64 (M:Int),.int .i64 (M:Int),.slice a' m' c'] 24 (0,0)) →
   Calls Tryz.prog 94 #[.int .i64 ((N*M:Nat):Int),.func (.func 143) #[] #[.pointer (some ⟨bm,0,none⟩),.pointer (some ⟨bl,0,none⟩),.pointer (some ⟨b2,0,none⟩)]] W (GridM W ((N*M:Nat):Int) ((N*M:Nat):Int) es)) :=
  fun bm bl b2 W hb g1 g2 g3=>made_g (N*M) (by omega) 143 #[] #[.pointer (some ⟨bm,0,none⟩),.pointer (some ⟨bl,0,none⟩),.pointer (some ⟨b2,0,none⟩)] (proS N M cs ds) es W hes enterPro (fun i j hi hj W' hb'=>pro1_c N M i j bm bl b2 a a' m c m' c' cs ds W' (h.mono (keep_trans hb hb')) (h'.mono (keep_trans hb hb')) L L' hi hj (keepq hb' g1) (keepq hb' g2) (keepq hb' g3))
 have hN2:=L.le
 have hM2:=L'.le
 generalize N*M=p at e5 hle HK1 hes ⊢
 have hp:¬(16:Int)<(p:Int):=by omega
 clear h h' hA hB L L' hes
 go_enter Tryz.func71,Tryz.ntmps71
 go_upto_region 1 with fail
 have fsz:(((w.alloc (.cells #[.int .i64 (N:Int),.int .i64 (N:Int),.slice a m c] 24)).alloc (.cells #[.int .i64 (M:Int),.int .i64 (M:Int),.slice a' m' c'] 24)).alloc (.cells #[.int .i64 0,.int .i64 0,.slice none 0 0] 24)).heap.size=w.heap.size+3:=by simp only[World.size_alloc] <;> omega
 have fB:Below w.heap.size w (((w.alloc (.cells #[.int .i64 (N:Int),.int .i64 (N:Int),.slice a m c] 24)).alloc (.cells #[.int .i64 (M:Int),.int .i64 (M:Int),.slice a' m' c'] 24)).alloc (.cells #[.int .i64 0,.int .i64 0,.slice none 0 0] 24)):=(((Below.refl _ _).alloc (Nat.le_refl _) _).alloc (by simp only[World.size_alloc];omega) _).alloc (by simp only[World.size_alloc];omega) _
 have fq0:(((w.alloc (.cells #[.int .i64 (N:Int),.int .i64 (N:Int),.slice a m c] 24)).alloc (.cells #[.int .i64 (M:Int),.int .i64 (M:Int),.slice a' m' c'] 24)).alloc (.cells #[.int .i64 0,.int .i64 0,.slice none 0 0] 24)).heap[w.heap.size]?=some (.cells #[.int .i64 (N:Int),.int .i64 (N:Int),.slice a m c] 24 (0,0)):=by have h:=World.alloc_heap_new w (.cells #[.int .i64 (N:Int),.int .i64 (N:Int),.slice a m c] 24);exact (Below.heap_alloc _ _ _ (by simp only[World.size_alloc];omega)).trans ((Below.heap_alloc _ _ _ (by simp only[World.size_alloc];omega)).trans (h))
 have fq1:(((w.alloc (.cells #[.int .i64 (N:Int),.int .i64 (N:Int),.slice a m c] 24)).alloc (.cells #[.int .i64 (M:Int),.int .i64 (M:Int),.slice a' m' c'] 24)).alloc (.cells #[.int .i64 0,.int .i64 0,.slice none 0 0] 24)).heap[w.heap.size+1]?=some (.cells #[.int .i64 (M:Int),.int .i64 (M:Int),.slice a' m' c'] 24 (0,0)):=by have h:=World.alloc_heap_new (w.alloc (.cells #[.int .i64 (N:Int),.int .i64 (N:Int),.slice a m c] 24)) (.cells #[.int .i64 (M:Int),.int .i64 (M:Int),.slice a' m' c'] 24);simp only[World.size_alloc] at h;exact (Below.heap_alloc _ _ _ (by simp only[World.size_alloc];omega)).trans (h)
 have fq2:(((w.alloc (.cells #[.int .i64 (N:Int),.int .i64 (N:Int),.slice a m c] 24)).alloc (.cells #[.int .i64 (M:Int),.int .i64 (M:Int),.slice a' m' c'] 24)).alloc (.cells #[.int .i64 0,.int .i64 0,.slice none 0 0] 24)).heap[w.heap.size+1+1]?=some (.cells #[.int .i64 0,.int .i64 0,.slice none 0 0] 24 (0,0)):=by have h:=World.alloc_heap_new ((w.alloc (.cells #[.int .i64 (N:Int),.int .i64 (N:Int),.slice a m c] 24)).alloc (.cells #[.int .i64 (M:Int),.int .i64 (M:Int),.slice a' m' c'] 24)) (.cells #[.int .i64 0,.int .i64 0,.slice none 0 0] 24);simp only[World.size_alloc] at h;exact h
 generalize (((w.alloc (.cells #[.int .i64 (N:Int),.int .i64 (N:Int),.slice a m c] 24)).alloc (.cells #[.int .i64 (M:Int),.int .i64 (M:Int),.slice a' m' c'] 24)).alloc (.cells #[.int .i64 0,.int .i64 0,.slice none 0 0] 24))=W0 at fsz fB fq0 fq1 fq2 ⊢
 obtain ⟨x0,x1,x2,xl⟩:=c3_of fq0
 obtain ⟨y0,y1,y2,yl⟩:=c3_of fq1
 have FB:=Lib.hid fB
 have Q0:=Lib.hid fq0
 have Q1:=Lib.hid fq1
 have Q2:=Lib.hid fq2
 clear fsz fq0 fq1 fq2
 refine wp_region_S (fun w'=>∃u,w'=over (W0) u) [6,5,4,3] [(0,0),(0,2),(1,1),(2,3),(2,4),(2,5),(2,6)] (by kernel_rfl) (by kernel_rfl) (by exact ⟨_,below_over (by repeat (first|assumption|exact Below.refl _ _|refine keep_drew ?_|refine keep_alloc ?_ _|refine keep_trans ?_ (by assumption)))⟩) ?_
 dsimp only[pickOps,nthOp]
 repeat (first|(refine wpS_skip rfl (fun K hK=>?_);go_big_quiet_op;refine hK _ ?_;clear hK K)|(refine wpS_quiet rfl rfl (fun K hK=>?_);go_big_quiet_op;refine hK _ ?_;clear hK K)|(refine wpS_loud ?_;go_wp2_with (first|(go_at_call 58;with_reducible refine (HKA.out _ (keep_trans fB (by (repeat (first|assumption|exact Below.refl _ _|refine keep_drew ?_|refine keep_alloc ?_ _|refine keep_trans ?_ (by assumption)))))).mono ?_;rintro _ w1 ⟨rfl,hb1⟩)|(go_at_call 58;with_reducible refine (HKB.out _ (keep_trans fB (by (repeat (first|assumption|exact Below.refl _ _|refine keep_drew ?_|refine keep_alloc ?_ _|refine keep_trans ?_ (by assumption)))))).mono ?_;rintro _ w2 ⟨rfl,hb2⟩)|(go_at_call 92;refine (tfirst_c _ _ _ _ _ (IC.new2 _ _ _ _)).mono ?_;rw[HF.out];rintro _ w3 ⟨rfl,rfl⟩)|fail);refine ⟨?_,?_⟩;focus (exact ⟨_,below_over (by repeat (first|assumption|exact Below.refl _ _|refine keep_drew ?_|refine keep_alloc ?_ _|refine keep_trans ?_ (by assumption)))⟩)))
 refine wpS_late _ _ _ rfl ?_
 dsimp only[List.map]
 go_wp2_with (first|(go_at_call 58;with_reducible refine (HKA.out _ (keep_trans fB (by (repeat (first|assumption|exact Below.refl _ _|refine keep_drew ?_|refine keep_alloc ?_ _|refine keep_trans ?_ (by assumption)))))).mono ?_;rintro _ w1 ⟨rfl,hb1⟩)|(go_at_call 58;with_reducible refine (HKB.out _ (keep_trans fB (by (repeat (first|assumption|exact Below.refl _ _|refine keep_drew ?_|refine keep_alloc ?_ _|refine keep_trans ?_ (by assumption)))))).mono ?_;rintro _ w2 ⟨rfl,hb2⟩)|(go_at_call 92;refine (tfirst_c _ _ _ _ _ (IC.new2 _ _ _ _)).mono ?_;rw[HF.out];rintro _ w3 ⟨rfl,rfl⟩)|fail)
 refine NoPanic.normal ?_
 have hB2:Below W0.heap.size W0 (w2.alloc (.cells #[.int .i64 (sqE 0 (N:Int) (N:Int) cs),.int .i64 (sqE 0 (M:Int) (M:Int) ds)] 27)):=by (repeat (first|assumption|exact Below.refl _ _|refine keep_drew ?_|refine keep_alloc ?_ _|refine keep_trans ?_ (by assumption)))
 have HB2:=Lib.hid (keep_trans FB.out hB2)
 have P0:=Lib.hid (keepq hB2 Q0.out)
 have P1:=Lib.hid (keepq hB2 Q1.out)
 have P2:=Lib.hid (keepq hB2 Q2.out)
 clear hB2 hb1 hb2 fB x0 x1 x2 xl y0 y1 y2 yl
 generalize (w2.alloc (.cells #[.int .i64 (sqE 0 (N:Int) (N:Int) cs),.int .i64 (sqE 0 (M:Int) (M:Int) ds)] 27))=W2 at HB2 P0 P1 P2 ⊢
 obtain ⟨x0,x1,x2,xl⟩:=c3_of P0.out
 obtain ⟨z0,z1,z2,zl⟩:=c3_of P1.out
 obtain ⟨y0,y1,y2,yl⟩:=c3_of P2.out
 obtain ⟨yf0,yf1,yf2⟩:=f3_of P2.out
 go_upto_region 5 with fail
 have gsz:(W2.alloc (.cells #[.int .i64 (M:Int)] 3)).heap.size=W2.heap.size+1:=by simp only[World.size_alloc]
 have gB:Below W2.heap.size W2 (W2.alloc (.cells #[.int .i64 (M:Int)] 3)):=(Below.refl _ _).alloc (Nat.le_refl _) _
 have gq0:(W2.alloc (.cells #[.int .i64 (M:Int)] 3)).heap[W2.heap.size]?=some (.cells #[.int .i64 (M:Int)] 3 (0,0)):=by have h:=World.alloc_heap_new W2 (.cells #[.int .i64 (M:Int)] 3);exact h
 generalize (W2.alloc (.cells #[.int .i64 (M:Int)] 3))=W3 at gsz gB gq0 ⊢
 have HB3:=Lib.hid (keep_trans HB2.out gB)
 have R0:=Lib.hid (keepq gB P0.out)
 have R1:=Lib.hid (keepq gB P1.out)
 have R2:=Lib.hid (keepq gB P2.out)
 have R3:=Lib.hid gq0
 clear x0 x1 x2 xl y0 y1 y2 yl z0 z1 z2 zl yf0 yf1 yf2 gsz gB gq0
 obtain ⟨u0,uf,ul⟩:=c1_of R3.out
 obtain ⟨x0,x1,x2,xl⟩:=c3_of R0.out
 obtain ⟨y0,y1,y2,yl⟩:=c3_of R2.out
 obtain ⟨yf0,yf1,yf2⟩:=f3_of R2.out
 have HM:=Lib.hid (HK1.out W2.heap.size w.heap.size (w.heap.size+1) W3 HB3.out R3.out R0.out R1.out)
 have hl2:=q_lt R2.out
 clear y0 y1 y2 yl yf0 yf1 yf2
 go_wp2_with (first|(go_at_call 94;refine HM.out.mono ?_;rintro _ w5 ⟨a2,c2,rfl,hown2,hb2⟩;have g1:=keepq hb2 R2.out;obtain ⟨y0,y1,y2,yl⟩:=c3_of g1;obtain ⟨yf0,yf1,yf2⟩:=f3_of g1)|fail)
 have hne:(Value.slice a2 (es).length c2).ownBlock≠some (w.heap.size+1+1):=fun e=>absurd (hown2.lt _ e).1 (by omega)
 have g3:=st3_q (x0 := .int .i64 (p:Int)) (x1 := .int .i64 (p:Int)) (x2 := .slice a2 (es).length c2) g1
 have hown3:=st3_own (x0 := .int .i64 (p:Int)) (x1 := .int .i64 (p:Int)) (x2 := .slice a2 (es).length c2) hown2 hne
 have hb3:=st3_below (x0 := .int .i64 (p:Int)) (x1 := .int .i64 (p:Int)) (x2 := .slice a2 (es).length c2) (b:=w.heap.size+1+1) (keep_trans HB3.out hb2) (by omega)
 obtain ⟨z0,z1,z2,zl⟩:=c3_of g3
 refine bodyPost_ret (v := .tuple #[.agg #[.int .i64 (p:Int),.int .i64 (p:Int),.slice a2 (es).length c2],.int .i64 0]) ?_ rfl ⟨_,_,rfl,owns_base hown3 HB3.out.size,(by first|exact hb3|exact hb3.drew)⟩
 simp[results,Tryz.f71,go_sem,z0,z1,z2]
theorem product_c (r C:Int) (a:Option Addr) (m c:Nat) (cs:List Int) (r2 C2:Int) (a':Option Addr) (m' c':Nat) (ds:List Int) (w:World) (h:IC w a m cs) (h':IC w a' m' ds) :
  Calls Tryz.prog 71 #[.agg #[.int .i64 r,.int .i64 C,.slice a m c],.agg #[.int .i64 r2,.int .i64 C2,.slice a' m' c']] w (GridE w (if proE r C cs r2 C2 ds=0 then r*r2 else 0) (if proE r C cs r2 C2 ds=0 then r*r2 else 0) (proL r C cs r2 C2 ds) (proE r C cs r2 C2 ds)):=by
 by_cases h0:firstL [sqE 0 r C cs,sqE 0 r2 C2 ds]=0
 ·have hA:=(firstL_cons0 h0).1
  have hB:=(firstL_cons0 (firstL_cons0 h0).2).1
  obtain ⟨N,rfl,rfl,L⟩:=sqE_ok hA
  obtain ⟨M,rfl,rfl,L'⟩:=sqE_ok hB
  have e5:(N:Int)*(M:Int)=((N*M:Nat):Int):=(Int.natCast_mul _ _).symm
  by_cases hbig:16<N*M
  ·have he:proE (N:Int) (N:Int) cs (M:Int) (M:Int) ds=20:=by unfold proE;rw[if_pos h0,e5,if_pos (by omega)]
   have hl:proL (N:Int) (N:Int) cs (M:Int) (M:Int) ds=[]:=by unfold proL;rw[he];rfl
   rw[he,hl,if_neg (by decide)]
   exact product_big N M a m c cs a' m' c' ds w h h' hA hB L.le L'.le hbig
  ·have he:proE (N:Int) (N:Int) cs (M:Int) (M:Int) ds=0:=by unfold proE;rw[if_pos h0,e5,if_neg (by omega)]
   have hl:proL (N:Int) (N:Int) cs (M:Int) (M:Int) ds=madeTo (N*M) (proS N M cs ds) (N*M*(N*M)):=by unfold proL;rw[he];rfl
   rw[he,hl,if_pos rfl,e5]
   exact product_ok N M a m c cs a' m' c' ds w h h' hA hB L L' (by omega)
 ·have he:proE r C cs r2 C2 ds=firstL [sqE 0 r C cs,sqE 0 r2 C2 ds]:=if_neg h0
  have hl:proL r C cs r2 C2 ds=[]:=by unfold proL;rw[he,if_neg h0]
  rw[hl,he,if_neg h0]
  exact product_bad r C a m c cs r2 C2 a' m' c' ds w h h' _ rfl h0
end
section
open Go Go.RowKit
attribute [local go_sem] over_cell
attribute [local go_sem] Oper.semAt_some
theorem lgreat_c (r C:Int) (a:Option Addr) (m c:Nat) (k:Int) (w:World):Calls Tryz.prog 19 #[.agg #[.int .i64 r,.int .i64 C,.slice a m c],.int .i64 k] w fun e w'=>e = .returned (.bool (decide (k<(m:Int))))∧Below w.heap.size w w':=by
 go_enter Tryz.func19,Tryz.ntmps19
 go_upto_region 1 with fail
 have fsz:(w.alloc (.cells #[.int .i64 r,.int .i64 C,.slice a m c] 24)).heap.size=w.heap.size+1:=by simp only[World.size_alloc]
 have fB:Below w.heap.size w (w.alloc (.cells #[.int .i64 r,.int .i64 C,.slice a m c] 24)):=(Below.refl _ _).alloc (Nat.le_refl _) _
 have fq0:(w.alloc (.cells #[.int .i64 r,.int .i64 C,.slice a m c] 24)).heap[w.heap.size]?=some (.cells #[.int .i64 r,.int .i64 C,.slice a m c] 24 (0,0)):=by have h:=World.alloc_heap_new w (.cells #[.int .i64 r,.int .i64 C,.slice a m c] 24);exact h
 generalize (w.alloc (.cells #[.int .i64 r,.int .i64 C,.slice a m c] 24))=W0 at fsz fB fq0 ⊢
 obtain ⟨x0,x1,x2,xl⟩:=c3_of fq0
 clear fq0 fsz
 go_wp2_with fail
 refine bodyPost_ret (v := .bool (decide (k<(m:Int)))) ?_ rfl ⟨rfl,fB⟩
 simp[results,Tryz.f19,go_sem]
def madeB (r C:Int) (cs:List Int) (er:Int) (r2 C2:Int) (ds:List Int) (bad:Int):Bool:=if bad≠0 then sameG r C cs 0 0 []&&(er==bad) else (er==0)&&sameG r C cs r2 C2 ds
theorem lmade_c (r C:Int) (a:Option Addr) (n c:Nat) (cs:List Int) (er:Int) (r2 C2:Int) (a2:Option Addr) (n2 c2:Nat) (ds:List Int) (bad:Int) (w:World) (h:IC w a n cs) (h2:IC w a2 n2 ds) :
  Calls Tryz.prog 24 #[.agg #[.int .i64 r,.int .i64 C,.slice a n c],.int .i64 er,.agg #[.int .i64 r2,.int .i64 C2,.slice a2 n2 c2],.int .i64 bad] w fun e w'=>e = .returned (.bool (madeB r C cs er r2 C2 ds bad))∧Below w.heap.size w w':=by
 have H0:=Lib.hid (fun W (hb:Below w.heap.size w W)=>rsame_c r C a n c cs 0 0 none 0 0 [] W (h.mono hb) ⟨⟨rfl,by omega⟩,fun k hk=>absurd hk (by omega)⟩)
 have H1:=Lib.hid (fun W (hb:Below w.heap.size w W)=>rsame_c r C a n c cs r2 C2 a2 n2 c2 ds W (h.mono hb) (h2.mono hb))
 have HD:Hid (madeB r C cs er r2 C2 ds bad=if bad≠0 then sameG r C cs 0 0 []&&(er==bad) else (er==0)&&sameG r C cs r2 C2 ds):=rfl
 generalize sameG r C cs 0 0 []=b0 at H0 HD
 generalize sameG r C cs r2 C2 ds=b1 at H1 HD
 generalize madeB r C cs er r2 C2 ds bad=R at HD ⊢
 clear h h2
 by_cases hb:bad=0
 ·have HR:Hid (R=((er==0)&&b1)):=by unfold Hid;rw[HD.out,if_neg (by simpa using hb)]
  have hb':(bad != 0)=false:=by simpa using hb
  obtain ⟨b,e1⟩:∃b,(er==0)=b:=⟨_,rfl⟩
  rw[e1] at HR
  clear hb HD
  cases b with
  | false =>
   go_enter Tryz.func24,Tryz.ntmps24
   go_upto_region 1 with fail
   have fsz:((w.alloc (.cells #[.int .i64 r,.int .i64 C,.slice a n c] 24)).alloc (.cells #[.int .i64 r2,.int .i64 C2,.slice a2 n2 c2] 24)).heap.size=w.heap.size+2:=by simp only[World.size_alloc] <;> omega
   have fB:Below w.heap.size w ((w.alloc (.cells #[.int .i64 r,.int .i64 C,.slice a n c] 24)).alloc (.cells #[.int .i64 r2,.int .i64 C2,.slice a2 n2 c2] 24)):=((Below.refl _ _).alloc (Nat.le_refl _) _).alloc (by simp only[World.size_alloc];omega) _
   have fq0:((w.alloc (.cells #[.int .i64 r,.int .i64 C,.slice a n c] 24)).alloc (.cells #[.int .i64 r2,.int .i64 C2,.slice a2 n2 c2] 24)).heap[w.heap.size]?=some (.cells #[.int .i64 r,.int .i64 C,.slice a n c] 24 (0,0)):=by have h:=World.alloc_heap_new w (.cells #[.int .i64 r,.int .i64 C,.slice a n c] 24);exact (Below.heap_alloc _ _ _ (by simp only[World.size_alloc];omega)).trans (h)
   have fq1:((w.alloc (.cells #[.int .i64 r,.int .i64 C,.slice a n c] 24)).alloc (.cells #[.int .i64 r2,.int .i64 C2,.slice a2 n2 c2] 24)).heap[w.heap.size+1]?=some (.cells #[.int .i64 r2,.int .i64 C2,.slice a2 n2 c2] 24 (0,0)):=by have h:=World.alloc_heap_new (w.alloc (.cells #[.int .i64 r,.int .i64 C,.slice a n c] 24)) (.cells #[.int .i64 r2,.int .i64 C2,.slice a2 n2 c2] 24);simp only[World.size_alloc] at h;exact h
   generalize ((w.alloc (.cells #[.int .i64 r,.int .i64 C,.slice a n c] 24)).alloc (.cells #[.int .i64 r2,.int .i64 C2,.slice a2 n2 c2] 24))=W0 at fsz fB fq0 fq1 ⊢
   obtain ⟨x0,x1,x2,xl⟩:=c3_of fq0
   obtain ⟨y0,y1,y2,yl⟩:=c3_of fq1
   clear fq0 fq1 fsz
   go_wp2_with fail
   refine bodyPost_ret (v := .bool false) ?_ rfl ⟨by rw[HR.out];rfl,fB⟩
   simp[results,Tryz.f24,go_sem]
  | true =>
   go_enter Tryz.func24,Tryz.ntmps24
   go_upto_region 1 with fail
   have fsz:((w.alloc (.cells #[.int .i64 r,.int .i64 C,.slice a n c] 24)).alloc (.cells #[.int .i64 r2,.int .i64 C2,.slice a2 n2 c2] 24)).heap.size=w.heap.size+2:=by simp only[World.size_alloc] <;> omega
   have fB:Below w.heap.size w ((w.alloc (.cells #[.int .i64 r,.int .i64 C,.slice a n c] 24)).alloc (.cells #[.int .i64 r2,.int .i64 C2,.slice a2 n2 c2] 24)):=((Below.refl _ _).alloc (Nat.le_refl _) _).alloc (by simp only[World.size_alloc];omega) _
   have fq0:((w.alloc (.cells #[.int .i64 r,.int .i64 C,.slice a n c] 24)).alloc (.cells #[.int .i64 r2,.int .i64 C2,.slice a2 n2 c2] 24)).heap[w.heap.size]?=some (.cells #[.int .i64 r,.int .i64 C,.slice a n c] 24 (0,0)):=by have h:=World.alloc_heap_new w (.cells #[.int .i64 r,.int .i64 C,.slice a n c] 24);exact (Below.heap_alloc _ _ _ (by simp only[World.size_alloc];omega)).trans (h)
   have fq1:((w.alloc (.cells #[.int .i64 r,.int .i64 C,.slice a n c] 24)).alloc (.cells #[.int .i64 r2,.int .i64 C2,.slice a2 n2 c2] 24)).heap[w.heap.size+1]?=some (.cells #[.int .i64 r2,.int .i64 C2,.slice a2 n2 c2] 24 (0,0)):=by have h:=World.alloc_heap_new (w.alloc (.cells #[.int .i64 r,.int .i64 C,.slice a n c] 24)) (.cells #[.int .i64 r2,.int .i64 C2,.slice a2 n2 c2] 24);simp only[World.size_alloc] at h;exact h
   generalize ((w.alloc (.cells #[.int .i64 r,.int .i64 C,.slice a n c] 24)).alloc (.cells #[.int .i64 r2,.int .i64 C2,.slice a2 n2 c2] 24))=W0 at fsz fB fq0 fq1 ⊢
   obtain ⟨x0,x1,x2,xl⟩:=c3_of fq0
   obtain ⟨y0,y1,y2,yl⟩:=c3_of fq1
   clear fq0 fq1 fsz
   go_wp2_with (first|(go_at_call 43;refine (H1.out _ (by (repeat (first|assumption|exact Below.refl _ _|refine keep_drew ?_|refine keep_alloc ?_ _|refine keep_trans ?_ (by assumption))))).mono ?_;rintro _ w2 ⟨rfl,hb2⟩)|fail)
   refine bodyPost_ret (v := .bool b1) ?_ rfl ⟨by rw[HR.out];rfl,keep_trans fB hb2⟩
   simp[results,Tryz.f24,go_sem]
 ·have HR:Hid (R=(b0&&(er==bad))):=by unfold Hid;rw[HD.out,if_pos hb]
  have hb':(bad != 0)=true:=by simpa using hb
  clear hb HD
  cases b0 with
  | false =>
   go_enter Tryz.func24,Tryz.ntmps24
   go_upto_region 1 with fail
   have fsz:((w.alloc (.cells #[.int .i64 r,.int .i64 C,.slice a n c] 24)).alloc (.cells #[.int .i64 r2,.int .i64 C2,.slice a2 n2 c2] 24)).heap.size=w.heap.size+2:=by simp only[World.size_alloc] <;> omega
   have fB:Below w.heap.size w ((w.alloc (.cells #[.int .i64 r,.int .i64 C,.slice a n c] 24)).alloc (.cells #[.int .i64 r2,.int .i64 C2,.slice a2 n2 c2] 24)):=((Below.refl _ _).alloc (Nat.le_refl _) _).alloc (by simp only[World.size_alloc];omega) _
   have fq0:((w.alloc (.cells #[.int .i64 r,.int .i64 C,.slice a n c] 24)).alloc (.cells #[.int .i64 r2,.int .i64 C2,.slice a2 n2 c2] 24)).heap[w.heap.size]?=some (.cells #[.int .i64 r,.int .i64 C,.slice a n c] 24 (0,0)):=by have h:=World.alloc_heap_new w (.cells #[.int .i64 r,.int .i64 C,.slice a n c] 24);exact (Below.heap_alloc _ _ _ (by simp only[World.size_alloc];omega)).trans (h)
   have fq1:((w.alloc (.cells #[.int .i64 r,.int .i64 C,.slice a n c] 24)).alloc (.cells #[.int .i64 r2,.int .i64 C2,.slice a2 n2 c2] 24)).heap[w.heap.size+1]?=some (.cells #[.int .i64 r2,.int .i64 C2,.slice a2 n2 c2] 24 (0,0)):=by have h:=World.alloc_heap_new (w.alloc (.cells #[.int .i64 r,.int .i64 C,.slice a n c] 24)) (.cells #[.int .i64 r2,.int .i64 C2,.slice a2 n2 c2] 24);simp only[World.size_alloc] at h;exact h
   generalize ((w.alloc (.cells #[.int .i64 r,.int .i64 C,.slice a n c] 24)).alloc (.cells #[.int .i64 r2,.int .i64 C2,.slice a2 n2 c2] 24))=W0 at fsz fB fq0 fq1 ⊢
   obtain ⟨x0,x1,x2,xl⟩:=c3_of fq0
   clear fq0 fq1 fsz
   go_wp2_with (first|(go_at_call 43;refine (H0.out _ (by (repeat (first|assumption|exact Below.refl _ _|refine keep_drew ?_|refine keep_alloc ?_ _|refine keep_trans ?_ (by assumption))))).mono ?_;rintro _ w2 ⟨rfl,hb2⟩)|fail)
   refine bodyPost_ret (v := .bool false) ?_ rfl ⟨by rw[HR.out];rfl,keep_trans fB hb2⟩
   simp[results,Tryz.f24,go_sem]
  | true =>
   go_enter Tryz.func24,Tryz.ntmps24
   go_upto_region 1 with fail
   have fsz:((w.alloc (.cells #[.int .i64 r,.int .i64 C,.slice a n c] 24)).alloc (.cells #[.int .i64 r2,.int .i64 C2,.slice a2 n2 c2] 24)).heap.size=w.heap.size+2:=by simp only[World.size_alloc] <;> omega
   have fB:Below w.heap.size w ((w.alloc (.cells #[.int .i64 r,.int .i64 C,.slice a n c] 24)).alloc (.cells #[.int .i64 r2,.int .i64 C2,.slice a2 n2 c2] 24)):=((Below.refl _ _).alloc (Nat.le_refl _) _).alloc (by simp only[World.size_alloc];omega) _
   have fq0:((w.alloc (.cells #[.int .i64 r,.int .i64 C,.slice a n c] 24)).alloc (.cells #[.int .i64 r2,.int .i64 C2,.slice a2 n2 c2] 24)).heap[w.heap.size]?=some (.cells #[.int .i64 r,.int .i64 C,.slice a n c] 24 (0,0)):=by have h:=World.alloc_heap_new w (.cells #[.int .i64 r,.int .i64 C,.slice a n c] 24);exact (Below.heap_alloc _ _ _ (by simp only[World.size_alloc];omega)).trans (h)
   have fq1:((w.alloc (.cells #[.int .i64 r,.int .i64 C,.slice a n c] 24)).alloc (.cells #[.int .i64 r2,.int .i64 C2,.slice a2 n2 c2] 24)).heap[w.heap.size+1]?=some (.cells #[.int .i64 r2,.int .i64 C2,.slice a2 n2 c2] 24 (0,0)):=by have h:=World.alloc_heap_new (w.alloc (.cells #[.int .i64 r,.int .i64 C,.slice a n c] 24)) (.cells #[.int .i64 r2,.int .i64 C2,.slice a2 n2 c2] 24);simp only[World.size_alloc] at h;exact h
   generalize ((w.alloc (.cells #[.int .i64 r,.int .i64 C,.slice a n c] 24)).alloc (.cells #[.int .i64 r2,.int .i64 C2,.slice a2 n2 c2] 24))=W0 at fsz fB fq0 fq1 ⊢
   obtain ⟨x0,x1,x2,xl⟩:=c3_of fq0
   clear fq0 fq1 fsz
   go_wp2_with (first|(go_at_call 43;refine (H0.out _ (by (repeat (first|assumption|exact Below.refl _ _|refine keep_drew ?_|refine keep_alloc ?_ _|refine keep_trans ?_ (by assumption))))).mono ?_;rintro _ w2 ⟨rfl,hb2⟩)|fail)
   refine bodyPost_ret (v := .bool (er==bad)) ?_ rfl ⟨by rw[HR.out];rfl,keep_trans fB hb2⟩
   simp[results,Tryz.f24,go_sem]
end
end Go.Proofs.YtmfpdakaeagdpaaGreat
