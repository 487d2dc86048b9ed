/- Texts J86 to J137 of this proof, in one file. -/
import Derived.Test.YtmfpdakaeagdpaaGreatW01
import Derived.Test.YtmfpdakaeagdpaaGreatW02
import Derived.Test.YtmfpdakaeagdpaaGreatW03
import Derived.Test.YtmfpdakaeagdpaaGreatW04
import Derived.Test.YtmfpdakaeagdpaaGreatW05
import Derived.Test.YtmfpdakaeagdpaaGreatW06
import Derived.Test.YtmfpdakaeagdpaaGreatW07
import Derived.Test.YtmfpdakaeagdpaaGreatW08
import Derived.Test.YtmfpdakaeagdpaaGreatW09
import Derived.Test.YtmfpdakaeagdpaaGreatW10
import Derived.Test.YtmfpdakaeagdpaaGreatW11
import Derived.Test.YtmfpdakaeagdpaaGreatW12
import Derived.Test.YtmfpdakaeagdpaaGreatW13
import Derived.Test.YtmfpdakaeagdpaaGreatW14
import Derived.Test.YtmfpdakaeagdpaaGreatW15
import Derived.Test.YtmfpdakaeagdpaaGreatW16
import Derived.Test.YtmfpdakaeagdpaaGreatW17
import Derived.Test.YtmfpdakaeagdpaaGreatW18
import Derived.Test.YtmfpdakaeagdpaaGreatW19
import Derived.Test.YtmfpdakaeagdpaaGreatW20
import Derived.Test.YtmfpdakaeagdpaaGreatW21
import Derived.Test.YtmfpdakaeagdpaaGreatW22
import Derived.Test.YtmfpdakaeagdpaaGreatW23
import Derived.Test.YtmfpdakaeagdpaaGreatW24
import Derived.Test.YtmfpdakaeagdpaaGreatW25
import Derived.Test.YtmfpdakaeagdpaaGreatW26
import Derived.Test.YtmfpdakaeagdpaaGreatW27
import Derived.Test.YtmfpdakaeagdpaaGreatX26n01
import Derived.Below
import Derived.BigFrame
import Derived.BigQuiet
import Derived.Deep.CutBlock
import Derived.Deep.CutRange
import Derived.Deep.LoopGhost
import Derived.Deep.Quiet
import Derived.Deep.RegionHeld3
import Derived.DeepKeys4
import Derived.KernelRfl
import Derived.Laws.BitsAllLaws
import Derived.Laws.EntriesVeiled
import Derived.Lib.AppendZeros
import Derived.Lib.Hide
import Derived.Lib.SlKeysI
import Derived.Lib.SliceRun
import Derived.LoopIn
import Derived.LoopNIn
import Derived.Maps.AppendAt
import Derived.Maps.OwnIn
import Derived.Maps.OwnSet
import Derived.OneCell
import Derived.OrdersHeld
import Derived.OrdersIn
import Derived.OwnWalkIn
import Derived.RangeFuncBound
import Derived.RangeFuncBox
import Derived.RangeFuncCalls
import Derived.RangeFuncLeaves
import Derived.RangeFuncNested
import Derived.RangeFuncWrites
import Derived.Shelf.Abstract
import Derived.Shelf.SortM.Plain
import Derived.Still
import Derived.TacticsIn
import Derived.TacticsInMore
import Derived.Test.YtmfpdakaeagdpaaGreatProg
import Derived.WalkKit
import Derived.WalkLawsBesides
import Derived.WalkSpells
import Derived.WideKeyPair
namespace Go.Proofs.YtmfpdakaeagdpaaGreat
set_option maxRecDepth 100000
set_option maxHeartbeats 16000000
section
open Go Go.RowKit
attribute [local go_sem] over_cell
attribute [local go_sem] Oper.semAt_some
theorem ist_bad (r C:Int) (a:Option Addr) (m c:Nat) (cs:List Int) (tA:Option Addr) (nt ct:Nat) (w:World) (h:IC w a m cs) (er:Int) (he:firstL [sqE 0 r C cs,whenV ((nt:Int) != r) 2]=er) (h0:er≠0) :
  Calls Tryz.prog 66 #[.agg #[.int .i64 r,.int .i64 C,.slice a m c],.slice tA nt ct] w fun e w'=>e = .returned (.tuple #[.bool false,.int .i64 er])∧Below w.heap.size w w':=by
 have HK:=Lib.hid (fun W (hb:Below w.heap.size w W)=>latcheck_c r C a m c cs W (h.mono hb))
 have HF:=Lib.hid he
 have h0':(er != 0)=true:=by simpa using h0
 clear he h h0
 go_enter Tryz.func66,Tryz.ntmps66
 go_upto_region 1 with fail
 have fB:Below w.heap.size w (w.alloc (.cells #[.int .i64 r,.int .i64 C,.slice a m c] 24)):=(Below.refl _ _).alloc (Nat.le_refl _) _
 have FQ:Hid ((w.alloc (.cells #[.int .i64 r,.int .i64 C,.slice a m c] 24)).heap[w.heap.size]?=some (.cells #[.int .i64 r,.int .i64 C,.slice a m c] 24 (0,0))):=World.alloc_heap_new _ _
 generalize (w.alloc (.cells #[.int .i64 r,.int .i64 C,.slice a m c] 24))=W0 at fB FQ ⊢
 obtain ⟨x0,x1,x2,xl⟩:=c3_of FQ.out
 refine wp_region_S (fun w'=>∃u,w'=over (W0) u) [10,9,8,7] [(0,0),(0,2),(0,3),(0,4),(0,5),(0,6),(1,1),(2,7),(2,8),(2,9),(2,10)] (by kernel_rfl) (by kernel_rfl) (by exact ⟨_,below_over (by repeat (first|assumption|exact Below.refl _ _|refine keep_drew ?_|refine keep_alloc ?_ _|refine keep_trans ?_ (by assumption)))⟩) ?_
 dsimp only[pickOps,nthOp]
 repeat (first|(refine wpS_skip rfl (fun K hK=>?_);go_big_quiet_op;refine hK _ ?_;clear hK K)|(refine wpS_quiet rfl rfl (fun K hK=>?_);go_big_quiet_op;refine hK _ ?_;clear hK K)|(refine wpS_loud ?_;go_wp2_with (first|(go_at_call 58;refine (HK.out _ (keep_trans fB (by (repeat (first|assumption|exact Below.refl _ _|refine keep_drew ?_|refine keep_alloc ?_ _|refine keep_trans ?_ (by assumption)))))).mono ?_;rintro _ w1 ⟨rfl,hb1⟩)|(go_at_call 93;refine (twhen_c _ _ _).mono ?_;rintro _ w2 ⟨rfl,rfl⟩)|(go_at_call 92;refine (tfirst_c _ _ _ _ _ (IC.new2 _ _ _ _)).mono ?_;rw[HF.out];rintro _ w3 ⟨rfl,rfl⟩)|fail);refine ⟨?_,?_⟩;focus (exact ⟨_,below_over (by repeat (first|assumption|exact Below.refl _ _|refine keep_drew ?_|refine keep_alloc ?_ _|refine keep_trans ?_ (by assumption)))⟩)))
 refine wpS_late _ _ _ rfl ?_
 dsimp only[List.map]
 go_wp2_with (first|(go_at_call 58;refine (HK.out _ (keep_trans fB (by (repeat (first|assumption|exact Below.refl _ _|refine keep_drew ?_|refine keep_alloc ?_ _|refine keep_trans ?_ (by assumption)))))).mono ?_;rintro _ w1 ⟨rfl,hb1⟩)|(go_at_call 93;refine (twhen_c _ _ _).mono ?_;rintro _ w2 ⟨rfl,rfl⟩)|(go_at_call 92;refine (tfirst_c _ _ _ _ _ (IC.new2 _ _ _ _)).mono ?_;rw[HF.out];rintro _ w3 ⟨rfl,rfl⟩)|fail)
 refine NoPanic.normal ?_
 have hB2:Below W0.heap.size W0 (w1.alloc (.cells #[.int .i64 (sqE 0 r C cs),.int .i64 (whenV ((nt:Int) != r) 2)] 27)):=by (repeat (first|assumption|exact Below.refl _ _|refine keep_drew ?_|refine keep_alloc ?_ _|refine keep_trans ?_ (by assumption)))
 have HB2:=Lib.hid (keep_trans fB hB2)
 have P0:=Lib.hid (keepq hB2 FQ.out)
 clear hB2 hb1 fB x0 x1 x2 xl
 generalize (w1.alloc (.cells #[.int .i64 (sqE 0 r C cs),.int .i64 (whenV ((nt:Int) != r) 2)] 27))=W2 at HB2 P0 ⊢
 go_wp2_with fail
 refine bodyPost_ret (v := .tuple #[.bool false,.int .i64 er]) ?_ rfl ⟨rfl,HB2.out⟩
 simp[results,Tryz.f66,go_sem]
theorem ist_ok (N:Nat) (a:Option Addr) (m c:Nat) (cs:List Int) (tA:Option Addr) (nt ct:Nat) (ts:List Int) (w:World) (h:IC w a m cs) (ht:IC w tA nt ts) (L:Latin N cs) (hA:sqE 0 (N:Int) (N:Int) cs=0) (hn:nt=N) (E:Int) (B:Bool) (hE:E=if anyP (outP (N:Int) ts) nt=true then 3 else 0) (hB:B=(decide (E=0)&&transB N cs ts)) :
  Calls Tryz.prog 66 #[.agg #[.int .i64 (N:Int),.int .i64 (N:Int),.slice a m c],.slice tA nt ct] w fun e w'=>e = .returned (.tuple #[.bool B,.int .i64 E])∧Below w.heap.size w w':=by
 have HK:=Lib.hid (fun W (hb:Below w.heap.size w W)=>latcheck_c (N:Int) (N:Int) a m c cs W (h.mono hb))
 have HF:=Lib.hid (show firstL [sqE 0 (N:Int) (N:Int) cs,whenV ((nt:Int) != (N:Int)) 2]=0 by rw[hA,show ((nt:Int) != (N:Int))=false by rw[hn];simp];rfl)
 have hN2:=L.le
 have hm:m=N*N:=by rw[← h.len];exact L.len
 have HAT:Hid (∀(i j:Nat) W,Below w.heap.size w W→i<N→j<N→Calls Tryz.prog 116 #[.agg #[.int .i64 (N:Int),.int .i64 (N:Int),.slice a m c],.int .i64 (i:Int),.int .i64 (j:Int)] W fun e w'=>e = .returned (.int .i64 (cs[i*N+j]?.getD 0))∧Below W.heap.size W w') :=
   fun i j W hb hi hj=>lat_c (N:Int) N i j a m c cs W (h.mono hb) (by omega) (by omega) hj (by rw[hm];exact gcell_lt hi hj)
 have HL:=Lib.hid L
 have HT:=Lib.hid ht
 have HEE:=Lib.hid hE
 have HBB:=Lib.hid hB
 have hs:=ht.small
 have hNt:(nt:Int)=(N:Int):=by omega
 have HNT:=Lib.hid hn
 have hnt16:nt≤16:=by omega
 clear h ht L hA hm hE hB hNt hn
 go_enter Tryz.func66,Tryz.ntmps66
 go_upto_region 1 with fail
 have fB:Below w.heap.size w (w.alloc (.cells #[.int .i64 (N:Int),.int .i64 (N:Int),.slice a m c] 24)):=(Below.refl _ _).alloc (Nat.le_refl _) _
 have FQ:Hid ((w.alloc (.cells #[.int .i64 (N:Int),.int .i64 (N:Int),.slice a m c] 24)).heap[w.heap.size]?=some (.cells #[.int .i64 (N:Int),.int .i64 (N:Int),.slice a m c] 24 (0,0))):=World.alloc_heap_new _ _
 generalize (w.alloc (.cells #[.int .i64 (N:Int),.int .i64 (N:Int),.slice a m c] 24))=W0 at fB FQ ⊢
 obtain ⟨x0,x1,x2,xl⟩:=c3_of FQ.out
 refine wp_region_S (fun w'=>∃u,w'=over (W0) u) [10,9,8,7] [(0,0),(0,2),(0,3),(0,4),(0,5),(0,6),(1,1),(2,7),(2,8),(2,9),(2,10)] (by kernel_rfl) (by kernel_rfl) (by exact ⟨_,below_over (by repeat (first|assumption|exact Below.refl _ _|refine keep_drew ?_|refine keep_alloc ?_ _|refine keep_trans ?_ (by assumption)))⟩) ?_
 dsimp only[pickOps,nthOp]
 repeat (first|(refine wpS_skip rfl (fun K hK=>?_);go_big_quiet_op;refine hK _ ?_;clear hK K)|(refine wpS_quiet rfl rfl (fun K hK=>?_);go_big_quiet_op;refine hK _ ?_;clear hK K)|(refine wpS_loud ?_;go_wp2_with (first|(go_at_call 58;refine (HK.out _ (keep_trans fB (by (repeat (first|assumption|exact Below.refl _ _|refine keep_drew ?_|refine keep_alloc ?_ _|refine keep_trans ?_ (by assumption)))))).mono ?_;rintro _ w1 ⟨rfl,hb1⟩)|(go_at_call 93;refine (twhen_c _ _ _).mono ?_;rintro _ w2 ⟨rfl,rfl⟩)|(go_at_call 92;refine (tfirst_c _ _ _ _ _ (IC.new2 _ _ _ _)).mono ?_;rw[HF.out];rintro _ w3 ⟨rfl,rfl⟩)|fail);refine ⟨?_,?_⟩;focus (exact ⟨_,below_over (by repeat (first|assumption|exact Below.refl _ _|refine keep_drew ?_|refine keep_alloc ?_ _|refine keep_trans ?_ (by assumption)))⟩)))
 refine wpS_late _ _ _ rfl ?_
 dsimp only[List.map]
 go_wp2_with (first|(go_at_call 58;refine (HK.out _ (keep_trans fB (by (repeat (first|assumption|exact Below.refl _ _|refine keep_drew ?_|refine keep_alloc ?_ _|refine keep_trans ?_ (by assumption)))))).mono ?_;rintro _ w1 ⟨rfl,hb1⟩)|(go_at_call 93;refine (twhen_c _ _ _).mono ?_;rintro _ w2 ⟨rfl,rfl⟩)|(go_at_call 92;refine (tfirst_c _ _ _ _ _ (IC.new2 _ _ _ _)).mono ?_;rw[HF.out];rintro _ w3 ⟨rfl,rfl⟩)|fail)
 refine NoPanic.normal ?_
 have hB2:Below W0.heap.size W0 (w1.alloc (.cells #[.int .i64 (sqE 0 (N:Int) (N:Int) cs),.int .i64 (whenV ((nt:Int) != (N:Int)) 2)] 27)):=by (repeat (first|assumption|exact Below.refl _ _|refine keep_drew ?_|refine keep_alloc ?_ _|refine keep_trans ?_ (by assumption)))
 have HB2:=Lib.hid (keep_trans fB hB2)
 have P0:=Lib.hid (keepq hB2 FQ.out)
 clear hB2 hb1 fB x0 x1 x2 xl
 generalize (w1.alloc (.cells #[.int .i64 (sqE 0 (N:Int) (N:Int) cs),.int .i64 (whenV ((nt:Int) != (N:Int)) 2)] 27))=W2 at HB2 P0 ⊢
 have HCF:=Lib.hid (containsFuncI_c tA nt ct ts 139 #[.pointer (some ⟨w.heap.size,0,none⟩)] (outP (N:Int) ts) W2 (HT.out.mono HB2.out) enterIsT (fun k hk W hb=>isT1_c (ts[k]?.getD 0) (N:Int) N w.heap.size _ W (keepq hb P0.out)))
 obtain ⟨x0,x1,x2,xl⟩:=c3_of P0.out
 cases hany:anyP (outP (N:Int) ts) nt with
 | true =>
  rw[hany] at HCF
  have HE3:Hid (E=3):=by unfold Hid;rw[HEE.out,hany];rfl
  clear hany
  go_wp2_with (first|(go_at_call 138;refine HCF.out.mono ?_;rintro _ w5 ⟨rfl,hb5⟩)|fail)
  refine bodyPost_ret (v := .tuple #[.bool false,.int .i64 3]) ?_ rfl ⟨by rw[HBB.out,HE3.out];rfl,keep_trans HB2.out hb5⟩
  simp[results,Tryz.f66,go_sem]
 | false =>
  rw[hany] at HCF
  have HE0:Hid (E=0):=by unfold Hid;rw[HEE.out,hany];rfl
  have HOU:Hid (∀k,k<nt→outP (N:Int) ts k=false):=fun k hk=>by
   rw[anyP,Bool.eq_false_iff] at hany
   rw[Bool.eq_false_iff]
   exact fun hp=>hany (List.any_eq_true.2 ⟨k,List.mem_range.2 hk,hp⟩)
  clear hany
  go_upto_region 7 with (first|(go_at_call 138;refine HCF.out.mono ?_;rintro _ w5 ⟨rfl,hb5⟩;clear x0 x1 x2 xl;obtain ⟨x0,x1,x2,xl⟩:=c3_of (keepq hb5 P0.out))|fail)
  have HB5:=Lib.hid (keep_trans HB2.out hb5)
  have P5:=Lib.hid (keepq hb5 P0.out)
  have HBT:Hid (B=transB N cs ts):=by unfold Hid;rw[HBB.out,HE0.out];rfl
  have HTL:Hid (ts.length=nt):=HT.out.len
  clear hb5 HCF HBB HK HF HEE P0 HB2
  go_wp2_with fail
  go_loopw [4,5,7,8,9,10,11,30] (fun _ _ s7 s8 _ _ _ s30 wr=>∃k:Nat,k≤nt∧s30 = .int .i64 (k:Int)∧s7 = .int .u32 (bitsOf (ts.take k):Int)∧s8 = .int .u32 (bitsOf (symsOf N cs (ts.take k)):Int)∧Hid (transB N cs (ts.take k)=true)∧Hid (Below w5.heap.size w5 wr)) (fun _ _ _ _ _ _ _ s30 _=>nt - (intOf s30).toNat)
  case atStart=>exact ⟨0,by omega,rfl,rfl,rfl,rfl,Below.refl _ _⟩
  case round =>
   obtain ⟨k,hk1,rfl,rfl,rfl,htr,hbk⟩:=hrel
   clear x0 x1 x2 xl
   obtain ⟨x0,x1,x2,xl⟩:=c3_of (keepq hbk.out P5.out)
   have hbw:=keep_trans HB5.out hbk.out
   by_cases hlt:k<nt
   ·have hkI:(k:Int)<(nt:Int):=by omega
    obtain ⟨b1,off,rfl,hl1,hc⟩:=(HT.out.mono hbw).2 k hlt
    have hkN:k<N:=by have:=HNT.out;omega
    have hbnd:∀i,i<nt→0≤ts[i]?.getD 0∧ts[i]?.getD 0<(N:Int):=fun i hi=>by
     have:=HOU.out i hi
     unfold outP at this
     rw[Bool.or_eq_false_iff,decide_eq_false_iff_not,decide_eq_false_iff_not] at this
     omega
    obtain ⟨jn,hjn⟩:∃jn:Nat,ts[k]?.getD 0=(jn:Int):=⟨(ts[k]?.getD 0).toNat,by have:=hbnd k hlt;omega⟩
    have hjN:jn<N:=by have:=hbnd k hlt;omega
    obtain ⟨X,hX,hXN⟩:=latAt HL.out hkN hjN
    have htk:ts.take (k+1)=ts.take k++[(jn:Int)]:=by
     rw[List.take_add_one,List.getElem?_eq_getElem (by rw[HTL.out];exact hlt),Option.toList_some]
     rw[List.getElem?_eq_getElem (by rw[HTL.out];exact hlt),Option.getD_some] at hjn
     rw[hjn]
    have htkl:(ts.take k).length=k:=by rw[List.length_take,HTL.out];omega
    have hsy:symAt N cs (ts.take k).length (jn:Int)=(X:Int):=by rw[htkl];exact hX
    have hin1:∀y,y∈ts.take k→0≤y∧y<(N:Int):=fun y hy=>by
     obtain ⟨i,hi,rfl⟩:=List.mem_iff_getElem.1 (List.mem_of_mem_take hy)
     have:=hbnd i (by rw[← HTL.out];exact hi)
     rw[List.getElem?_eq_getElem hi,Option.getD_some] at this
     exact this
    have hin2:∀y,y∈symsOf N cs (ts.take k)→0≤y∧y<(N:Int):=fun y hy=>by
     unfold symsOf at hy
     obtain ⟨i,hi,rfl⟩:=List.mem_map.1 hy
     have hi2:=List.mem_range.1 hi
     rw[htkl] at hi2
     have h3:=hbnd i (by omega)
     rw[List.getElem?_take_of_lt hi2]
     obtain ⟨Y,hY,hYN⟩:=latAt HL.out (i:=i) (j:=(ts[i]?.getD 0).toNat) (by have:=HNT.out;omega) (by omega)
     unfold symAt
     rw[hY];omega
    have hpow:2 ^ N≤4294967296:=Nat.le_trans (Nat.pow_le_pow_right (by decide) (show N≤32 by omega)) (by decide)
    have hm1:bitsOf (ts.take k)<4294967296:=Nat.lt_of_lt_of_le (bitsOf_lt (n:=N) hin1) hpow
    have hm2:bitsOf (symsOf N cs (ts.take k))<4294967296:=Nat.lt_of_lt_of_le (bitsOf_lt (n:=N) hin2) hpow
    have t1:(bitsOf (ts.take k)).testBit jn=decide ((jn:Int)∈ts.take k):=by rw[Bool.eq_iff_iff,decide_eq_true_eq];exact bitsOf_bit (fun y hy=>(hin1 y hy).1)
    have t2:(bitsOf (symsOf N cs (ts.take k))).testBit X=decide ((X:Int)∈symsOf N cs (ts.take k)):=by rw[Bool.eq_iff_iff,decide_eq_true_eq];exact bitsOf_bit (fun y hy=>(hin2 y hy).1)
    have HD:Hid (transB N cs (ts.take (k+1))=(!(bitsOf (ts.take k)).testBit jn&&!(bitsOf (symsOf N cs (ts.take k))).testBit X)):=by
     unfold Hid
     rw[htk,transB_snoc,hsy,htr.out,t1,t2,Bool.true_and,decide_not,decide_not]
    have HBF:Hid (transB N cs (ts.take (k+1))=false→B=false):=fun e=>by
     rw[HBT.out,Bool.eq_false_iff]
     intro e2
     rw[transB_take e2 (k+1)] at e
     exact absurd e (by decide)
    have N1:Hid (bitsOf (ts.take (k+1))=bitsOf (ts.take k) ||| 1 <<< jn):=by unfold Hid;rw[htk,bitsOf_snoc];rfl
    have N2:Hid (bitsOf (symsOf N cs (ts.take (k+1)))=bitsOf (symsOf N cs (ts.take k)) ||| 1 <<< X):=by unfold Hid;rw[htk,symsOf_snoc,bitsOf_snoc,hsy];rfl
    have HA:=Lib.hid (fun W hb=>HAT.out k jn W (keep_trans hbw hb) hkN hjN)
    rw[hX] at HA
    rw[hjn] at hc
    clear t1 t2 hin1 hin2 hpow hsy htkl htk hX hjn hbnd htr
    obtain ⟨tb,htb⟩:∃tb,transB N cs (ts.take (k+1))=tb:=⟨_,rfl⟩
    rw[htb] at HD HBF
    have HTR:=Lib.hid htb
    clear htb
    generalize bitsOf (ts.take k)=m1 at HD N1 hm1 ⊢
    generalize bitsOf (symsOf N cs (ts.take k))=m2 at HD N2 hm2 ⊢
    have HH1:=Lib.hid (fun W=>syhas_c m1 (jn:Int) W hm1 (by omega) (by omega))
    have HH2:=Lib.hid (fun W=>syhas_c m2 (X:Int) W hm2 (by omega) (by omega))
    have HW1:=Lib.hid (fun W=>sywith_c m1 (jn:Int) W hm1 (by omega) (by omega))
    have HW2:=Lib.hid (fun W=>sywith_c m2 (X:Int) W hm2 (by omega) (by omega))
    rw[Int.toNat_natCast] at HH1 HH2 HW1 HW2
    rw[← N1.out] at HW1
    rw[← N2.out] at HW2
    clear HL HT HBT HNT N1 N2
    cases hc1:m1.testBit jn with
    | true =>
     have HBV:Hid (B=false):=HBF.out (by rw[HD.out,hc1];rfl)
     rw[hc1] at HH1
     clear hc1 HD HBF
     go_wp2_with (first|(go_at_call 116;refine (HA.out _ (by (repeat (first|assumption|exact Below.refl _ _|refine keep_drew ?_|refine keep_alloc ?_ _|refine keep_trans ?_ (by assumption))))).mono ?_;rintro _ w6 ⟨rfl,hb6⟩)|(go_at_call 117;with_reducible refine (HH1.out _).mono ?_;rintro _ w7 ⟨rfl,rfl⟩)|(go_at_call 117;with_reducible refine (HH2.out _).mono ?_;rintro _ w7 ⟨rfl,rfl⟩)|(go_at_call 115;with_reducible refine (HW1.out _).mono ?_;rintro _ w7 ⟨rfl,rfl⟩)|(go_at_call 115;with_reducible refine (HW2.out _).mono ?_;rintro _ w7 ⟨rfl,rfl⟩)|fail)
     refine bodyPost_ret (v := .tuple #[.bool false,.int .i64 0]) ?_ rfl ⟨by rw[HBV.out,HE0.out],keep_trans hbw (show Below wr.heap.size wr w6 by (repeat (first|assumption|exact Below.refl _ _|refine keep_drew ?_|refine keep_alloc ?_ _|refine keep_trans ?_ (by assumption))))⟩
     simp[results,Tryz.f66,go_sem]
    | false =>
     rw[hc1] at HH1
     cases hc2:m2.testBit X with
     | true =>
      have HBV:Hid (B=false):=HBF.out (by rw[HD.out,hc1,hc2];rfl)
      rw[hc2] at HH2
      clear hc1 hc2 HD HBF
      go_wp2_with (first|(go_at_call 116;refine (HA.out _ (by (repeat (first|assumption|exact Below.refl _ _|refine keep_drew ?_|refine keep_alloc ?_ _|refine keep_trans ?_ (by assumption))))).mono ?_;rintro _ w6 ⟨rfl,hb6⟩)|(go_at_call 117;with_reducible refine (HH1.out _).mono ?_;rintro _ w7 ⟨rfl,rfl⟩)|(go_at_call 117;with_reducible refine (HH2.out _).mono ?_;rintro _ w7 ⟨rfl,rfl⟩)|(go_at_call 115;with_reducible refine (HW1.out _).mono ?_;rintro _ w7 ⟨rfl,rfl⟩)|(go_at_call 115;with_reducible refine (HW2.out _).mono ?_;rintro _ w7 ⟨rfl,rfl⟩)|fail)
      refine bodyPost_ret (v := .tuple #[.bool false,.int .i64 0]) ?_ rfl ⟨by rw[HBV.out,HE0.out],keep_trans hbw (show Below wr.heap.size wr w6 by (repeat (first|assumption|exact Below.refl _ _|refine keep_drew ?_|refine keep_alloc ?_ _|refine keep_trans ?_ (by assumption))))⟩
      simp[results,Tryz.f66,go_sem]
     | false =>
      have HTB:Hid (tb=true):=by unfold Hid;rw[HD.out,hc1,hc2];rfl
      rw[hc2] at HH2
      clear hc1 hc2 HD HBF
      go_wp2_with (first|(go_at_call 116;refine (HA.out _ (by (repeat (first|assumption|exact Below.refl _ _|refine keep_drew ?_|refine keep_alloc ?_ _|refine keep_trans ?_ (by assumption))))).mono ?_;rintro _ w6 ⟨rfl,hb6⟩)|(go_at_call 117;with_reducible refine (HH1.out _).mono ?_;rintro _ w7 ⟨rfl,rfl⟩)|(go_at_call 117;with_reducible refine (HH2.out _).mono ?_;rintro _ w7 ⟨rfl,rfl⟩)|(go_at_call 115;with_reducible refine (HW1.out _).mono ?_;rintro _ w7 ⟨rfl,rfl⟩)|(go_at_call 115;with_reducible refine (HW2.out _).mono ?_;rintro _ w7 ⟨rfl,rfl⟩)|fail)
      go_roundw
      case rel=>exact ⟨k+1,by omega,by go_num,rfl,rfl,HTR.out.trans HTB.out,keep_trans hbk.out (show Below wr.heap.size wr w6 by (repeat (first|assumption|exact Below.refl _ _|refine keep_drew ?_|refine keep_alloc ?_ _|refine keep_trans ?_ (by assumption))))⟩
      case measure=>simp[intOf];omega
   ·have e:k=nt:=by omega
    subst e
    have HBV:Hid (B=true):=by unfold Hid;rw[HBT.out,← htr.out,List.take_of_length_le (by rw[HTL.out];exact Nat.le_refl _)]
    go_wp2_with fail
    refine bodyPost_ret (v := .tuple #[.bool true,.int .i64 0]) ?_ rfl ⟨by rw[HBV.out,HE0.out],hbw⟩
    simp[results,Tryz.f66,go_sem]
theorem isT_c (r C:Int) (a:Option Addr) (m c:Nat) (cs:List Int) (tA:Option Addr) (nt ct:Nat) (ts:List Int) (w:World) (h:IC w a m cs) (ht:IC w tA nt ts) :
  Calls Tryz.prog 66 #[.agg #[.int .i64 r,.int .i64 C,.slice a m c],.slice tA nt ct] w fun e w'=>e = .returned (.tuple #[.bool (isTB r C cs ts),.int .i64 (isTE r C cs ts)])∧Below w.heap.size w w':=by
 have hl:=ht.len
 by_cases h0:isTF r C cs ts=0
 ·have h1:firstL [sqE 0 r C cs,whenV ((ts.length:Int) != r) 2]=0:=h0
  have hA:=(firstL_cons0 h1).1
  have hB:=(firstL_cons0 (firstL_cons0 h1).2).1
  obtain ⟨N,rfl,rfl,L⟩:=sqE_ok hA
  have hn:nt=N:=by
   by_cases e:(ts.length:Int)=(N:Int)
   ·omega
   ·have:((ts.length:Int) != (N:Int))=true:=by simpa using e
    rw[this] at hB
    exact absurd hB (by decide)
  refine ist_ok N a m c cs tA nt ct ts w h ht L hA hn _ _ ?_ ?_
  ·unfold isTE;rw[if_pos h0,hl]
  ·rfl
 ·have h1:isTE r C cs ts=isTF r C cs ts:=if_neg h0
  have h2:isTB r C cs ts=false:=by unfold isTB;rw[h1,decide_eq_false h0];rfl
  rw[h1,h2]
  exact ist_bad r C a m c cs tA nt ct w h _ (by rw[← hl];rfl) h0
end
section
open Go Go.RowKit
attribute [local go_sem] over_cell
attribute [local go_sem] Oper.semAt_some
theorem lgreat_c (r C:Int) (a:Option Addr) (m c:Nat) (k:Int) (w:World):Calls Tryz.prog 19 #[.agg #[.int .i64 r,.int .i64 C,.slice a m c],.int .i64 k] w fun e w'=>e = .returned (.bool (decide (k<(m:Int))))∧Below w.heap.size w w':=by
 go_enter Tryz.func19,Tryz.ntmps19
 go_upto_region 1 with fail
 have fsz:(w.alloc (.cells #[.int .i64 r,.int .i64 C,.slice a m c] 24)).heap.size=w.heap.size+1:=by simp only[World.size_alloc]
 have fB:Below w.heap.size w (w.alloc (.cells #[.int .i64 r,.int .i64 C,.slice a m c] 24)):=(Below.refl _ _).alloc (Nat.le_refl _) _
 have fq0:(w.alloc (.cells #[.int .i64 r,.int .i64 C,.slice a m c] 24)).heap[w.heap.size]?=some (.cells #[.int .i64 r,.int .i64 C,.slice a m c] 24 (0,0)):=by have h:=World.alloc_heap_new w (.cells #[.int .i64 r,.int .i64 C,.slice a m c] 24);exact h
 generalize (w.alloc (.cells #[.int .i64 r,.int .i64 C,.slice a m c] 24))=W0 at fsz fB fq0 ⊢
 obtain ⟨x0,x1,x2,xl⟩:=c3_of fq0
 clear fq0 fsz
 go_wp2_with fail
 refine bodyPost_ret (v := .bool (decide (k<(m:Int)))) ?_ rfl ⟨rfl,fB⟩
 simp[results,Tryz.f19,go_sem]
end
section
theorem lat_sqE {n:Nat} {cs:List Int} (L:Latin n cs):sqE 0 (n:Int) (n:Int) cs=0:=by
 have h1:sqB (n:Int) (n:Int) cs=true:=by
  unfold sqB
  rw[L.len,← Int.natCast_mul]
  simp only[Bool.and_eq_true,decide_eq_true_eq]
  exact ⟨⟨⟨trivial,by have:=L.pos;omega⟩,by have:=L.le;omega⟩,trivial⟩
 unfold sqE
 rw[if_pos h1]
 unfold symE
 rw[if_neg,if_neg]
 ·rw[Int.toNat_natCast,L.once];decide
 ·rw[Bool.not_eq_true,List.any_eq_false]
  intro x hx
  have:=L.num x hx
  simp only[Bool.or_eq_true,decide_eq_true_eq,Int.toNat_natCast]
  omega
end
section
open Go Go.RowKit
attribute [local go_sem] over_cell
attribute [local go_sem] Oper.semAt_some
theorem firstL_ne {x:Int} {l:List Int} (h:x≠0):firstL (x :: l)=x:=by
 unfold firstL
 rw[if_pos (by simpa using h)]
theorem firstL_z {l:List Int}:firstL (0 :: l)=firstL l:=by
 rw[firstL];simp
end
section
open Go Go.RowKit
attribute [local go_sem] over_cell
attribute [local go_sem] Oper.semAt_some
theorem own_emp (w:World) (B:Nat) (T:TypeId) (hB:B≤w.heap.size):(w.alloc (.cells #[] T)).ownsRow B T 1 (.slice (some ⟨w.heap.size,0,none⟩) 0 0) 0 [] :=
 ⟨rfl,.inr ⟨w.heap.size,0,#[],rfl,hB,World.alloc_heap_new _ _,Nat.le_refl _,by unfold maxLen;omega,rfl,rfl⟩⟩
theorem ints_one (l:List Int):∀u∈l.map (Value.int .i64),u.oneCell'=true:=by
 intro u hu
 obtain ⟨x,_,rfl⟩:=List.mem_map.1 hu
 rfl
theorem src_one (w:World) (x:Value) (T:TypeId):SrcOk (w.alloc (.cells #[x] T)) (some ⟨w.heap.size,0,none⟩) 1 [x] := .inl ⟨_,rfl,cell_one_new _ _ _⟩
theorem src_below {w w':World} {a:Option Addr} {m:Nat} {news:List Value} (h:SrcOk w a m news) (hb:Below w.heap.size w w'):SrcOk w' a m news:=by
 rcases h with ⟨p,rfl,h⟩|h
 ·exact .inl ⟨p,rfl,fun j u hj=>by
   have h1:=h j u hj
   rw[← h1]
   exact hb.cell (cell_lt h1)⟩
 ·exact .inr h
end
section
open Go Go.RowKit
attribute [local go_sem] over_cell
attribute [local go_sem] Oper.semAt_some
theorem trE_zero {N:Nat} {cs:List Int} (L:Latin N cs) (h7:N≤7):trE (N:Int) (N:Int) cs=0∧trL (N:Int) (N:Int) cs=transL N cs N []:=by
 have h:trE (N:Int) (N:Int) cs=0:=by
  unfold trE
  rw[lat_sqE L,decide_eq_false (show ¬(7:Int)<(N:Int) by omega)]
  rfl
 refine ⟨h,?_⟩
 unfold trL
 rw[if_pos h];rfl
end
section
open Go Go.RowKit
attribute [local go_sem] over_cell
attribute [local go_sem] Oper.semAt_some
def trB1 (n:Nat) (cs t:List Int) (i k:Nat):Bool:=t[i]?.getD 0==t[k]?.getD 0||symAt n cs i (t[i]?.getD 0)==symAt n cs k (t[k]?.getD 0)
theorem transB_hit {n:Nat} {cs t:List Int} {i k:Nat} (hi:i<t.length) (hk:k<i) (h:trB1 n cs t i k=true):transB n cs t=false:=by
 unfold transB
 refine allr_miss (p:=fun i=>(List.range i).all fun k=>!(t[i]?.getD 0==t[k]?.getD 0||symAt n cs i (t[i]?.getD 0)==symAt n cs k (t[k]?.getD 0))) hi (allr_miss (p:=fun k=>!(t[i]?.getD 0==t[k]?.getD 0||symAt n cs i (t[i]?.getD 0)==symAt n cs k (t[k]?.getD 0))) hk ?_)
 show (!trB1 n cs t i k)=false
 rw[h];rfl
theorem transB_ok {n:Nat} {cs t:List Int} (h:∀i,i<t.length→∀k,k<i→trB1 n cs t i k=false):transB n cs t=true:=by
 unfold transB
 refine allr_upto fun i hi=>allr_upto fun k hk=>?_
 show (!trB1 n cs t i k)=true
 rw[h i hi k hk];rfl
theorem rist_c (N nn:Nat) (a:Option Addr) (ca:Nat) (cs:List Int) (aT:Option Addr) (nT cT:Nat) (t:List Int) (w:World) (h:IC w a nn cs) (hT:IC w aT nT t) (hnn:nn=N*N) (hN1:1≤N) (hN2:N≤16) (hl:nT≤N) (hr:∀y,y∈t→0≤y∧y<(N:Int)) :
  Calls Tryz.prog 68 #[.agg #[.int .i64 (N:Int),.int .i64 (N:Int),.slice a nn ca],.slice aT nT cT] w fun e w'=>e = .returned (.bool (transB N cs t))∧Below w.heap.size w w':=by
 have htl:=hT.len
 have HNUM:Hid (∀i,i<nT→∃p:Nat,t[i]?.getD 0=(p:Int)∧p<N∧i*N+p<nn):=fun i hi=>by
  have h1:t[i]?.getD 0∈t:=by rw[List.getElem?_eq_getElem (by omega)];exact List.getElem_mem _
  have h2:=hr _ h1
  have h3:=row_lt (n:=N) (show i<N by omega) h2.1 h2.2
  exact ⟨(t[i]?.getD 0).toNat,by omega,by omega,by rw[hnn];exact h3⟩
 have HHIT:=Lib.hid (fun i k (hi:i<nT)=>transB_hit (n:=N) (cs:=cs) (t:=t) (i:=i) (k:=k) (by rw[htl];exact hi))
 have HOK:Hid ((∀i,i<nT→∀k,k<i→trB1 N cs t i k=false)→transB N cs t=true):=fun h1=>transB_ok (fun i hi=>h1 i (by rw[htl] at hi;exact hi))
 have hmm:nn≤256:=by rw[hnn];exact Nat.mul_le_mul hN2 hN2
 generalize transB N cs t=R at HHIT HOK ⊢
 have HT:=Lib.hid hT
 have HI:=Lib.hid h
 clear h hT htl hnn hr
 go_enter Tryz.func68,Tryz.ntmps68
 go_upto_region 1 with fail
 have fB:Below w.heap.size w (w.alloc (.cells #[.int .i64 (N:Int),.int .i64 (N:Int),.slice a nn ca] 24)):=(Below.refl _ _).alloc (Nat.le_refl _) _
 have FQ:Hid ((w.alloc (.cells #[.int .i64 (N:Int),.int .i64 (N:Int),.slice a nn ca] 24)).heap[w.heap.size]?=some (.cells #[.int .i64 (N:Int),.int .i64 (N:Int),.slice a nn ca] 24 (0,0))):=World.alloc_heap_new _ _
 generalize (w.alloc (.cells #[.int .i64 (N:Int),.int .i64 (N:Int),.slice a nn ca] 24))=W0 at fB FQ ⊢
 obtain ⟨x0,x1,x2,xl⟩:=c3_of FQ.out
 have FB:=Lib.hid fB
 have HI0:=Lib.hid (HI.out.mono fB)
 have HT0:=Lib.hid (HT.out.mono fB)
 clear fB x0 x1 x2 xl
 go_wp2_with fail
 go_loopw [5,6] (fun s5 _ wr=>∃i:Nat,i≤nT∧s5 = .int .i64 (i:Int)∧Hid (∀i',i'<i→∀k,k<i'→trB1 N cs t i' k=false)∧Hid (Below W0.heap.size W0 wr)) (fun s5 _ _=>nT - (intOf s5).toNat)
 case atStart=>exact ⟨0,by omega,rfl,fun i hi=>absurd hi (by omega),Below.refl _ _⟩
 case round =>
  obtain ⟨i,hi1,rfl,hpi,hbr⟩:=hrel
  by_cases hlt:i<nT
  ·have hii:(i:Int)<(nT:Int):=by omega
   go_wp2_with fail
   go_loopw [6] (fun s6 wr=>∃k:Nat,k≤i∧s6 = .int .i64 (k:Int)∧Hid (∀k',k'<k→trB1 N cs t i k'=false)∧Hid (Below W0.heap.size W0 wr)) (fun s6 _=>i - (intOf s6).toNat)
   case atStart=>exact ⟨0,by omega,rfl,fun k hk=>absurd hk (by omega),hbr⟩
   case round =>
    obtain ⟨k,hk1,rfl,hpk,hbk⟩:=hrel
    by_cases hlt2:k<i
    ·have hki:(k:Int)<(i:Int):=by omega
     have hkn:(k:Int)<(nT:Int):=by omega
     obtain ⟨x0,x1,x2,xl⟩:=c3_of (keepq hbk.out FQ.out)
     obtain ⟨p,hp1,hp2,hp3⟩:=HNUM.out i hlt
     obtain ⟨q,hq1,hq2,hq3⟩:=HNUM.out k (by omega)
     obtain ⟨b1,off1,rfl,hbl1,hc1⟩:=(HT0.out.mono hbk.out).2 i hlt
     obtain ⟨_,_,e2,hbl2,hc2⟩:=(HT0.out.mono hbk.out).2 k (by omega)
     cases e2
     obtain ⟨b3,off3,rfl,hbl3,hc3⟩:=(HI0.out.mono hbk.out).2 (i*N+p) hp3
     obtain ⟨_,_,e4,hbl4,hc4⟩:=(HI0.out.mono hbk.out).2 (k*N+q) hq3
     cases e4
     have HB1:Hid (trB1 N cs t i k=(((p:Int)==(q:Int))||(cs[i*N+p]?.getD 0==cs[k*N+q]?.getD 0))):=by
      unfold Hid trB1 symAt
      rw[hp1,hq1,Int.toNat_natCast,Int.toNat_natCast]
     rw[hp1] at hc1
     rw[hq1] at hc2
     have HHX:=Lib.hid (HHIT.out i k hlt hlt2)
     have HNX:Hid (trB1 N cs t i k=false→∀k',k'<k+1→trB1 N cs t i k'=false):=fun e k' hk'=>by
      rcases Nat.lt_or_ge k' k with e3|e3
      ·exact hpk.out k' e3
      ·rw[show k'=k by omega];exact e
     generalize trB1 N cs t i k=B at HB1 HHX HNX
     have m1:(i:Int)*(N:Int)=((i*N:Nat):Int):=(Int.natCast_mul _ _).symm
     have m2:(k:Int)*(N:Int)=((k*N:Nat):Int):=(Int.natCast_mul _ _).symm
     generalize cs[i*N+p]?.getD 0=u at hc3 HB1
     generalize cs[k*N+q]?.getD 0=v at hc4 HB1
     generalize i*N=iN at m1 hp3 hc3
     generalize k*N=kN at m2 hq3 hc4
     have n1:(iN:Int)+(p:Int)<(nn:Int):=by omega
     have n2:(kN:Int)+(q:Int)<(nn:Int):=by omega
     clear hp1 hq1
     cases hpq:((p:Int)==(q:Int)) with
     | true =>
      rw[hpq,Bool.true_or] at HB1
      have HF:=Lib.hid (HHX.out HB1.out)
      have hpn:(p==q)=true:=by rw[← hpq,Bool.eq_iff_iff,beq_iff_eq,beq_iff_eq];omega
      clear HHX HNX
      go_wp2_with fail
      refine wp_region_S (fun w'=>∃u,w'=over (wr) u) [] [(0,0),(0,1),(0,2),(0,3),(0,4),(0,5),(0,6),(0,7),(0,8),(0,9),(0,10),(0,11),(0,12),(0,13),(0,14),(0,15),(0,16),(0,17),(0,18),(0,19),(0,20),(0,21),(0,22),(0,23),(0,24),(0,25),(0,26),(0,27),(0,28),(0,29),(0,30),(0,31),(0,32),(0,33),(0,34),(0,35),(0,36),(0,37)] (by kernel_rfl) (by kernel_rfl) (by exact ⟨_,below_over (by repeat (first|assumption|exact Below.refl _ _|refine keep_drew ?_|refine keep_alloc ?_ _|refine keep_trans ?_ (by assumption)))⟩) ?_
      dsimp only[pickOps,nthOp]
      repeat (first|(refine wpS_skip rfl (fun K hK=>?_);go_big_quiet_op;refine hK _ ?_;clear hK K)|(refine wpS_quiet rfl rfl (fun K hK=>?_);go_big_quiet_op;refine hK _ ?_;clear hK K))
      refine wpS_end ?_
      go_wp2_with fail
      refine bodyPost_ret (v := .bool false) ?_ rfl ⟨by rw[HF.out],keep_trans FB.out hbk.out.drew⟩
      simp[results,Tryz.f68,go_sem]
     | false =>
      rw[hpq,Bool.false_or] at HB1
      have hpn:(p==q)=false:=by rw[← hpq,Bool.eq_iff_iff,beq_iff_eq,beq_iff_eq];omega
      cases huv:(u==v) with
      | true =>
       rw[huv] at HB1
       have HF:=Lib.hid (HHX.out HB1.out)
       clear HHX HNX
       go_wp2_with fail
       refine wp_region_S (fun w'=>∃u,w'=over (wr) u) [] [(0,0),(0,1),(0,2),(0,3),(0,4),(0,5),(0,6),(0,7),(0,8),(0,9),(0,10),(0,11),(0,12),(0,13),(0,14),(0,15),(0,16),(0,17),(0,18),(0,19),(0,20),(0,21),(0,22),(0,23),(0,24),(0,25),(0,26),(0,27),(0,28),(0,29),(0,30),(0,31),(0,32),(0,33),(0,34),(0,35),(0,36),(0,37)] (by kernel_rfl) (by kernel_rfl) (by exact ⟨_,below_over (by repeat (first|assumption|exact Below.refl _ _|refine keep_drew ?_|refine keep_alloc ?_ _|refine keep_trans ?_ (by assumption)))⟩) ?_
       dsimp only[pickOps,nthOp]
       repeat (first|(refine wpS_skip rfl (fun K hK=>?_);go_big_quiet_op;refine hK _ ?_;clear hK K)|(refine wpS_quiet rfl rfl (fun K hK=>?_);go_big_quiet_op;refine hK _ ?_;clear hK K))
       refine wpS_end ?_
       go_wp2_with fail
       refine bodyPost_ret (v := .bool false) ?_ rfl ⟨by rw[HF.out],keep_trans FB.out hbk.out.drew⟩
       simp[results,Tryz.f68,go_sem]
      | false =>
       rw[huv] at HB1
       have HF:=Lib.hid (HNX.out HB1.out)
       clear HHX HNX
       go_wp2_with fail
       refine wp_region_S (fun w'=>∃u,w'=over (wr) u) [] [(0,0),(0,1),(0,2),(0,3),(0,4),(0,5),(0,6),(0,7),(0,8),(0,9),(0,10),(0,11),(0,12),(0,13),(0,14),(0,15),(0,16),(0,17),(0,18),(0,19),(0,20),(0,21),(0,22),(0,23),(0,24),(0,25),(0,26),(0,27),(0,28),(0,29),(0,30),(0,31),(0,32),(0,33),(0,34),(0,35),(0,36),(0,37)] (by kernel_rfl) (by kernel_rfl) (by exact ⟨_,below_over (by repeat (first|assumption|exact Below.refl _ _|refine keep_drew ?_|refine keep_alloc ?_ _|refine keep_trans ?_ (by assumption)))⟩) ?_
       dsimp only[pickOps,nthOp]
       repeat (first|(refine wpS_skip rfl (fun K hK=>?_);go_big_quiet_op;refine hK _ ?_;clear hK K)|(refine wpS_quiet rfl rfl (fun K hK=>?_);go_big_quiet_op;refine hK _ ?_;clear hK K))
       refine wpS_end ?_
       go_wp2_with fail
       go_roundw
       case rel=>exact ⟨k+1,by omega,by go_num,HF,hbk.out.drew⟩
       case measure=>simp[intOf];omega
    ·have hki:¬(k:Int)<(i:Int):=by omega
     go_wp2_with fail
     go_roundw
     case rel=>exact ⟨i+1,by omega,by go_num,fun i' hi'=>by
      rcases Nat.lt_or_ge i' i with e|e
      ·exact hpi.out i' e
      ·rw[show i'=i by omega];exact fun k' hk'=>hpk.out k' (by omega),hbk⟩
     case measure=>simp[intOf];omega
  ·have hii:¬(i:Int)<(nT:Int):=by omega
   have HF:Hid (R=true):=HOK.out (fun i' hi'=>hpi.out i' (by omega))
   go_wp2_with fail
   refine bodyPost_ret (v := .bool true) ?_ rfl ⟨by rw[HF.out],keep_trans FB.out hbr.out⟩
   simp[results,Tryz.f68,go_sem]
end
end Go.Proofs.YtmfpdakaeagdpaaGreat
