/- Texts J86 to J123 of this proof, in one file. -/
import Derived.Test.YtmfpdakaeagdpaaGreatW01
import Derived.Test.YtmfpdakaeagdpaaGreatW02
import Derived.Test.YtmfpdakaeagdpaaGreatW03
import Derived.Test.YtmfpdakaeagdpaaGreatW04
import Derived.Test.YtmfpdakaeagdpaaGreatW05
import Derived.Test.YtmfpdakaeagdpaaGreatW06
import Derived.Test.YtmfpdakaeagdpaaGreatW07
import Derived.Test.YtmfpdakaeagdpaaGreatW08
import Derived.Test.YtmfpdakaeagdpaaGreatW09
import Derived.Test.YtmfpdakaeagdpaaGreatW10
import Derived.Test.YtmfpdakaeagdpaaGreatW11
import Derived.Test.YtmfpdakaeagdpaaGreatW12
import Derived.Test.YtmfpdakaeagdpaaGreatW13
import Derived.Test.YtmfpdakaeagdpaaGreatW14
import Derived.Test.YtmfpdakaeagdpaaGreatW15
import Derived.Test.YtmfpdakaeagdpaaGreatW16
import Derived.Test.YtmfpdakaeagdpaaGreatW17
import Derived.Test.YtmfpdakaeagdpaaGreatW18
import Derived.Test.YtmfpdakaeagdpaaGreatW19
import Derived.Test.YtmfpdakaeagdpaaGreatW20
import Derived.Test.YtmfpdakaeagdpaaGreatW21
import Derived.Test.YtmfpdakaeagdpaaGreatW22
import Derived.Test.YtmfpdakaeagdpaaGreatW23
import Derived.Test.YtmfpdakaeagdpaaGreatW24
import Derived.Test.YtmfpdakaeagdpaaGreatW25
import Derived.Test.YtmfpdakaeagdpaaGreatW26
import Derived.Test.YtmfpdakaeagdpaaGreatW27
import Derived.Test.YtmfpdakaeagdpaaGreatX25n01
import Derived.Below
import Derived.BigFrame
import Derived.BigQuiet
import Derived.Deep.CutBlock
import Derived.Deep.CutRange
import Derived.Deep.LoopGhost
import Derived.Deep.Quiet
import Derived.Deep.RegionHeld3
import Derived.DeepKeys4
import Derived.KernelRfl
import Derived.Laws.BitsAllLaws
import Derived.Laws.EntriesVeiled
import Derived.Lib.Hide
import Derived.Lib.SliceRun
import Derived.LoopIn
import Derived.LoopNIn
import Derived.Maps.AppendAt
import Derived.Maps.OwnIn
import Derived.Maps.OwnSet
import Derived.OneCell
import Derived.OrdersHeld
import Derived.OrdersIn
import Derived.OwnWalkIn
import Derived.RangeFuncBound
import Derived.RangeFuncCalls
import Derived.RangeFuncLeaves
import Derived.RangeFuncNested
import Derived.Shelf.Abstract
import Derived.Still
import Derived.TacticsIn
import Derived.TacticsInMore
import Derived.Test.YtmfpdakaeagdpaaGreatProg
import Derived.WalkKit
import Derived.WalkLawsBesides
import Derived.WalkSpells
import Derived.WideKeyPair
namespace Go.Proofs.YtmfpdakaeagdpaaGreat
set_option maxRecDepth 100000
set_option maxHeartbeats 16000000
section
open Go Go.RowKit
attribute [local go_sem] over_cell
attribute [local go_sem] Oper.semAt_some
theorem ist_bad (r C:Int) (a:Option Addr) (m c:Nat) (cs:List Int) (tA:Option Addr) (nt ct:Nat) (w:World) (h:IC w a m cs) (er:Int) (he:firstL [sqE 0 r C cs,whenV ((nt:Int) != r) 2]=er) (h0:er≠0) :
  Calls Tryz.prog 66 #[.agg #[.int .i64 r,.int .i64 C,.slice a m c],.slice tA nt ct] w fun e w'=>e = .returned (.tuple #[.bool false,.int .i64 er])∧Below w.heap.size w w':=by
 have HK:=Lib.hid (fun W (hb:Below w.heap.size w W)=>latcheck_c r C a m c cs W (h.mono hb))
 have HF:=Lib.hid he
 have h0':(er != 0)=true:=by simpa using h0
 clear he h h0
 go_enter Tryz.func66,Tryz.ntmps66
 go_upto_region 1 with fail
 have fB:Below w.heap.size w (w.alloc (.cells #[.int .i64 r,.int .i64 C,.slice a m c] 24)):=(Below.refl _ _).alloc (Nat.le_refl _) _
 have FQ:Hid ((w.alloc (.cells #[.int .i64 r,.int .i64 C,.slice a m c] 24)).heap[w.heap.size]?=some (.cells #[.int .i64 r,.int .i64 C,.slice a m c] 24 (0,0))):=World.alloc_heap_new _ _
 generalize (w.alloc (.cells #[.int .i64 r,.int .i64 C,.slice a m c] 24))=W0 at fB FQ ⊢
 obtain ⟨x0,x1,x2,xl⟩:=c3_of FQ.out
 refine wp_region_S (fun w'=>∃u,w'=over (W0) u) [10,9,8,7] [(0,0),(0,2),(0,3),(0,4),(0,5),(0,6),(1,1),(2,7),(2,8),(2,9),(2,10)] (by kernel_rfl) (by kernel_rfl) (by exact ⟨_,below_over (by repeat (first|assumption|exact Below.refl _ _|refine keep_drew ?_|refine keep_alloc ?_ _|refine keep_trans ?_ (by assumption)))⟩) ?_
 dsimp only[pickOps,nthOp]
 repeat (first|(refine wpS_skip rfl (fun K hK=>?_);go_big_quiet_op;refine hK _ ?_;clear hK K)|(refine wpS_quiet rfl rfl (fun K hK=>?_);go_big_quiet_op;refine hK _ ?_;clear hK K)|(refine wpS_loud ?_;go_wp2_with (first|(go_at_call 58;refine (HK.out _ (keep_trans fB (by (repeat (first|assumption|exact Below.refl _ _|refine keep_drew ?_|refine keep_alloc ?_ _|refine keep_trans ?_ (by assumption)))))).mono ?_;rintro _ w1 ⟨rfl,hb1⟩)|(go_at_call 93;refine (twhen_c _ _ _).mono ?_;rintro _ w2 ⟨rfl,rfl⟩)|(go_at_call 92;refine (tfirst_c _ _ _ _ _ (IC.new2 _ _ _ _)).mono ?_;rw[HF.out];rintro _ w3 ⟨rfl,rfl⟩)|fail);refine ⟨?_,?_⟩;focus (exact ⟨_,below_over (by repeat (first|assumption|exact Below.refl _ _|refine keep_drew ?_|refine keep_alloc ?_ _|refine keep_trans ?_ (by assumption)))⟩)))
 refine wpS_late _ _ _ rfl ?_
 dsimp only[List.map]
 go_wp2_with (first|(go_at_call 58;refine (HK.out _ (keep_trans fB (by (repeat (first|assumption|exact Below.refl _ _|refine keep_drew ?_|refine keep_alloc ?_ _|refine keep_trans ?_ (by assumption)))))).mono ?_;rintro _ w1 ⟨rfl,hb1⟩)|(go_at_call 93;refine (twhen_c _ _ _).mono ?_;rintro _ w2 ⟨rfl,rfl⟩)|(go_at_call 92;refine (tfirst_c _ _ _ _ _ (IC.new2 _ _ _ _)).mono ?_;rw[HF.out];rintro _ w3 ⟨rfl,rfl⟩)|fail)
 refine NoPanic.normal ?_
 have hB2:Below W0.heap.size W0 (w1.alloc (.cells #[.int .i64 (sqE 0 r C cs),.int .i64 (whenV ((nt:Int) != r) 2)] 27)):=by (repeat (first|assumption|exact Below.refl _ _|refine keep_drew ?_|refine keep_alloc ?_ _|refine keep_trans ?_ (by assumption)))
 have HB2:=Lib.hid (keep_trans fB hB2)
 have P0:=Lib.hid (keepq hB2 FQ.out)
 clear hB2 hb1 fB x0 x1 x2 xl
 generalize (w1.alloc (.cells #[.int .i64 (sqE 0 r C cs),.int .i64 (whenV ((nt:Int) != r) 2)] 27))=W2 at HB2 P0 ⊢
 go_wp2_with fail
 refine bodyPost_ret (v := .tuple #[.bool false,.int .i64 er]) ?_ rfl ⟨rfl,HB2.out⟩
 simp[results,Tryz.f66,go_sem]
theorem ist_ok (N:Nat) (a:Option Addr) (m c:Nat) (cs:List Int) (tA:Option Addr) (nt ct:Nat) (ts:List Int) (w:World) (h:IC w a m cs) (ht:IC w tA nt ts) (L:Latin N cs) (hA:sqE 0 (N:Int) (N:Int) cs=0) (hn:nt=N) (E:Int) (B:Bool) (hE:E=if anyP (outP (N:Int) ts) nt=true then 3 else 0) (hB:B=(decide (E=0)&&transB N cs ts)) :
  Calls Tryz.prog 66 #[.agg #[.int .i64 (N:Int),.int .i64 (N:Int),.slice a m c],.slice tA nt ct] w fun e w'=>e = .returned (.tuple #[.bool B,.int .i64 E])∧Below w.heap.size w w':=by
 have HK:=Lib.hid (fun W (hb:Below w.heap.size w W)=>latcheck_c (N:Int) (N:Int) a m c cs W (h.mono hb))
 have HF:=Lib.hid (show firstL [sqE 0 (N:Int) (N:Int) cs,whenV ((nt:Int) != (N:Int)) 2]=0 by rw[hA,show ((nt:Int) != (N:Int))=false by rw[hn];simp];rfl)
 have hN2:=L.le
 have hm:m=N*N:=by rw[← h.len];exact L.len
 have HAT:Hid (∀(i j:Nat) W,Below w.heap.size w W→i<N→j<N→Calls Tryz.prog 116 #[.agg #[.int .i64 (N:Int),.int .i64 (N:Int),.slice a m c],.int .i64 (i:Int),.int .i64 (j:Int)] W fun e w'=>e = .returned (.int .i64 (cs[i*N+j]?.getD 0))∧Below W.heap.size W w') :=
   fun i j W hb hi hj=>lat_c (N:Int) N i j a m c cs W (h.mono hb) (by omega) (by omega) hj (by rw[hm];exact gcell_lt hi hj)
 have HL:=Lib.hid L
 have HT:=Lib.hid ht
 have HEE:=Lib.hid hE
 have HBB:=Lib.hid hB
 have hs:=ht.small
 have hNt:(nt:Int)=(N:Int):=by omega
 have HNT:=Lib.hid hn
 have hnt16:nt≤16:=by omega
 clear h ht L hA hm hE hB hNt hn
 go_enter Tryz.func66,Tryz.ntmps66
 go_upto_region 1 with fail
 have fB:Below w.heap.size w (w.alloc (.cells #[.int .i64 (N:Int),.int .i64 (N:Int),.slice a m c] 24)):=(Below.refl _ _).alloc (Nat.le_refl _) _
 have FQ:Hid ((w.alloc (.cells #[.int .i64 (N:Int),.int .i64 (N:Int),.slice a m c] 24)).heap[w.heap.size]?=some (.cells #[.int .i64 (N:Int),.int .i64 (N:Int),.slice a m c] 24 (0,0))):=World.alloc_heap_new _ _
 generalize (w.alloc (.cells #[.int .i64 (N:Int),.int .i64 (N:Int),.slice a m c] 24))=W0 at fB FQ ⊢
 obtain ⟨x0,x1,x2,xl⟩:=c3_of FQ.out
 refine wp_region_S (fun w'=>∃u,w'=over (W0) u) [10,9,8,7] [(0,0),(0,2),(0,3),(0,4),(0,5),(0,6),(1,1),(2,7),(2,8),(2,9),(2,10)] (by kernel_rfl) (by kernel_rfl) (by exact ⟨_,below_over (by repeat (first|assumption|exact Below.refl _ _|refine keep_drew ?_|refine keep_alloc ?_ _|refine keep_trans ?_ (by assumption)))⟩) ?_
 dsimp only[pickOps,nthOp]
 repeat (first|(refine wpS_skip rfl (fun K hK=>?_);go_big_quiet_op;refine hK _ ?_;clear hK K)|(refine wpS_quiet rfl rfl (fun K hK=>?_);go_big_quiet_op;refine hK _ ?_;clear hK K)|(refine wpS_loud ?_;go_wp2_with (first|(go_at_call 58;refine (HK.out _ (keep_trans fB (by (repeat (first|assumption|exact Below.refl _ _|refine keep_drew ?_|refine keep_alloc ?_ _|refine keep_trans ?_ (by assumption)))))).mono ?_;rintro _ w1 ⟨rfl,hb1⟩)|(go_at_call 93;refine (twhen_c _ _ _).mono ?_;rintro _ w2 ⟨rfl,rfl⟩)|(go_at_call 92;refine (tfirst_c _ _ _ _ _ (IC.new2 _ _ _ _)).mono ?_;rw[HF.out];rintro _ w3 ⟨rfl,rfl⟩)|fail);refine ⟨?_,?_⟩;focus (exact ⟨_,below_over (by repeat (first|assumption|exact Below.refl _ _|refine keep_drew ?_|refine keep_alloc ?_ _|refine keep_trans ?_ (by assumption)))⟩)))
 refine wpS_late _ _ _ rfl ?_
 dsimp only[List.map]
 go_wp2_with (first|(go_at_call 58;refine (HK.out _ (keep_trans fB (by (repeat (first|assumption|exact Below.refl _ _|refine keep_drew ?_|refine keep_alloc ?_ _|refine keep_trans ?_ (by assumption)))))).mono ?_;rintro _ w1 ⟨rfl,hb1⟩)|(go_at_call 93;refine (twhen_c _ _ _).mono ?_;rintro _ w2 ⟨rfl,rfl⟩)|(go_at_call 92;refine (tfirst_c _ _ _ _ _ (IC.new2 _ _ _ _)).mono ?_;rw[HF.out];rintro _ w3 ⟨rfl,rfl⟩)|fail)
 refine NoPanic.normal ?_
 have hB2:Below W0.heap.size W0 (w1.alloc (.cells #[.int .i64 (sqE 0 (N:Int) (N:Int) cs),.int .i64 (whenV ((nt:Int) != (N:Int)) 2)] 27)):=by (repeat (first|assumption|exact Below.refl _ _|refine keep_drew ?_|refine keep_alloc ?_ _|refine keep_trans ?_ (by assumption)))
 have HB2:=Lib.hid (keep_trans fB hB2)
 have P0:=Lib.hid (keepq hB2 FQ.out)
 clear hB2 hb1 fB x0 x1 x2 xl
 generalize (w1.alloc (.cells #[.int .i64 (sqE 0 (N:Int) (N:Int) cs),.int .i64 (whenV ((nt:Int) != (N:Int)) 2)] 27))=W2 at HB2 P0 ⊢
 have HCF:=Lib.hid (containsFuncI_c tA nt ct ts 139 #[.pointer (some ⟨w.heap.size,0,none⟩)] (outP (N:Int) ts) W2 (HT.out.mono HB2.out) enterIsT (fun k hk W hb=>isT1_c (ts[k]?.getD 0) (N:Int) N w.heap.size _ W (keepq hb P0.out)))
 obtain ⟨x0,x1,x2,xl⟩:=c3_of P0.out
 cases hany:anyP (outP (N:Int) ts) nt with
 | true =>
  rw[hany] at HCF
  have HE3:Hid (E=3):=by unfold Hid;rw[HEE.out,hany];rfl
  clear hany
  go_wp2_with (first|(go_at_call 138;refine HCF.out.mono ?_;rintro _ w5 ⟨rfl,hb5⟩)|fail)
  refine bodyPost_ret (v := .tuple #[.bool false,.int .i64 3]) ?_ rfl ⟨by rw[HBB.out,HE3.out];rfl,keep_trans HB2.out hb5⟩
  simp[results,Tryz.f66,go_sem]
 | false =>
  rw[hany] at HCF
  have HE0:Hid (E=0):=by unfold Hid;rw[HEE.out,hany];rfl
  have HOU:Hid (∀k,k<nt→outP (N:Int) ts k=false):=fun k hk=>by
   rw[anyP,Bool.eq_false_iff] at hany
   rw[Bool.eq_false_iff]
   exact fun hp=>hany (List.any_eq_true.2 ⟨k,List.mem_range.2 hk,hp⟩)
  clear hany
  go_upto_region 7 with (first|(go_at_call 138;refine HCF.out.mono ?_;rintro _ w5 ⟨rfl,hb5⟩;clear x0 x1 x2 xl;obtain ⟨x0,x1,x2,xl⟩:=c3_of (keepq hb5 P0.out))|fail)
  have HB5:=Lib.hid (keep_trans HB2.out hb5)
  have P5:=Lib.hid (keepq hb5 P0.out)
  have HBT:Hid (B=transB N cs ts):=by unfold Hid;rw[HBB.out,HE0.out];rfl
  have HTL:Hid (ts.length=nt):=HT.out.len
  clear hb5 HCF HBB HK HF HEE P0 HB2
  go_wp2_with fail
  go_loopw [4,5,7,8,9,10,11,30] (fun _ _ s7 s8 _ _ _ s30 wr=>∃k:Nat,k≤nt∧s30 = .int .i64 (k:Int)∧s7 = .int .u32 (bitsOf (ts.take k):Int)∧s8 = .int .u32 (bitsOf (symsOf N cs (ts.take k)):Int)∧Hid (transB N cs (ts.take k)=true)∧Hid (Below w5.heap.size w5 wr)) (fun _ _ _ _ _ _ _ s30 _=>nt - (intOf s30).toNat)
  case atStart=>exact ⟨0,by omega,rfl,rfl,rfl,rfl,Below.refl _ _⟩
  case round =>
   obtain ⟨k,hk1,rfl,rfl,rfl,htr,hbk⟩:=hrel
   clear x0 x1 x2 xl
   obtain ⟨x0,x1,x2,xl⟩:=c3_of (keepq hbk.out P5.out)
   have hbw:=keep_trans HB5.out hbk.out
   by_cases hlt:k<nt
   ·have hkI:(k:Int)<(nt:Int):=by omega
    obtain ⟨b1,off,rfl,hl1,hc⟩:=(HT.out.mono hbw).2 k hlt
    have hkN:k<N:=by have:=HNT.out;omega
    have hbnd:∀i,i<nt→0≤ts[i]?.getD 0∧ts[i]?.getD 0<(N:Int):=fun i hi=>by
     have:=HOU.out i hi
     unfold outP at this
     rw[Bool.or_eq_false_iff,decide_eq_false_iff_not,decide_eq_false_iff_not] at this
     omega
    obtain ⟨jn,hjn⟩:∃jn:Nat,ts[k]?.getD 0=(jn:Int):=⟨(ts[k]?.getD 0).toNat,by have:=hbnd k hlt;omega⟩
    have hjN:jn<N:=by have:=hbnd k hlt;omega
    obtain ⟨X,hX,hXN⟩:=latAt HL.out hkN hjN
    have htk:ts.take (k+1)=ts.take k++[(jn:Int)]:=by
     rw[List.take_add_one,List.getElem?_eq_getElem (by rw[HTL.out];exact hlt),Option.toList_some]
     rw[List.getElem?_eq_getElem (by rw[HTL.out];exact hlt),Option.getD_some] at hjn
     rw[hjn]
    have htkl:(ts.take k).length=k:=by rw[List.length_take,HTL.out];omega
    have hsy:symAt N cs (ts.take k).length (jn:Int)=(X:Int):=by rw[htkl];exact hX
    have hin1:∀y,y∈ts.take k→0≤y∧y<(N:Int):=fun y hy=>by
     obtain ⟨i,hi,rfl⟩:=List.mem_iff_getElem.1 (List.mem_of_mem_take hy)
     have:=hbnd i (by rw[← HTL.out];exact hi)
     rw[List.getElem?_eq_getElem hi,Option.getD_some] at this
     exact this
    have hin2:∀y,y∈symsOf N cs (ts.take k)→0≤y∧y<(N:Int):=fun y hy=>by
     unfold symsOf at hy
     obtain ⟨i,hi,rfl⟩:=List.mem_map.1 hy
     have hi2:=List.mem_range.1 hi
     rw[htkl] at hi2
     have h3:=hbnd i (by omega)
     rw[List.getElem?_take_of_lt hi2]
     obtain ⟨Y,hY,hYN⟩:=latAt HL.out (i:=i) (j:=(ts[i]?.getD 0).toNat) (by have:=HNT.out;omega) (by omega)
     unfold symAt
     rw[hY];omega
    have hpow:2 ^ N≤4294967296:=Nat.le_trans (Nat.pow_le_pow_right (by decide) (show N≤32 by omega)) (by decide)
    have hm1:bitsOf (ts.take k)<4294967296:=Nat.lt_of_lt_of_le (bitsOf_lt (n:=N) hin1) hpow
    have hm2:bitsOf (symsOf N cs (ts.take k))<4294967296:=Nat.lt_of_lt_of_le (bitsOf_lt (n:=N) hin2) hpow
    have t1:(bitsOf (ts.take k)).testBit jn=decide ((jn:Int)∈ts.take k):=by rw[Bool.eq_iff_iff,decide_eq_true_eq];exact bitsOf_bit (fun y hy=>(hin1 y hy).1)
    have t2:(bitsOf (symsOf N cs (ts.take k))).testBit X=decide ((X:Int)∈symsOf N cs (ts.take k)):=by rw[Bool.eq_iff_iff,decide_eq_true_eq];exact bitsOf_bit (fun y hy=>(hin2 y hy).1)
    have HD:Hid (transB N cs (ts.take (k+1))=(!(bitsOf (ts.take k)).testBit jn&&!(bitsOf (symsOf N cs (ts.take k))).testBit X)):=by
     unfold Hid
     rw[htk,transB_snoc,hsy,htr.out,t1,t2,Bool.true_and,decide_not,decide_not]
    have HBF:Hid (transB N cs (ts.take (k+1))=false→B=false):=fun e=>by
     rw[HBT.out,Bool.eq_false_iff]
     intro e2
     rw[transB_take e2 (k+1)] at e
     exact absurd e (by decide)
    have N1:Hid (bitsOf (ts.take (k+1))=bitsOf (ts.take k) ||| 1 <<< jn):=by unfold Hid;rw[htk,bitsOf_snoc];rfl
    have N2:Hid (bitsOf (symsOf N cs (ts.take (k+1)))=bitsOf (symsOf N cs (ts.take k)) ||| 1 <<< X):=by unfold Hid;rw[htk,symsOf_snoc,bitsOf_snoc,hsy];rfl
    have HA:=Lib.hid (fun W hb=>HAT.out k jn W (keep_trans hbw hb) hkN hjN)
    rw[hX] at HA
    rw[hjn] at hc
    clear t1 t2 hin1 hin2 hpow hsy htkl htk hX hjn hbnd htr
    obtain ⟨tb,htb⟩:∃tb,transB N cs (ts.take (k+1))=tb:=⟨_,rfl⟩
    rw[htb] at HD HBF
    have HTR:=Lib.hid htb
    clear htb
    generalize bitsOf (ts.take k)=m1 at HD N1 hm1 ⊢
    generalize bitsOf (symsOf N cs (ts.take k))=m2 at HD N2 hm2 ⊢
    have HH1:=Lib.hid (fun W=>syhas_c m1 (jn:Int) W hm1 (by omega) (by omega))
    have HH2:=Lib.hid (fun W=>syhas_c m2 (X:Int) W hm2 (by omega) (by omega))
    have HW1:=Lib.hid (fun W=>sywith_c m1 (jn:Int) W hm1 (by omega) (by omega))
    have HW2:=Lib.hid (fun W=>sywith_c m2 (X:Int) W hm2 (by omega) (by omega))
    rw[Int.toNat_natCast] at HH1 HH2 HW1 HW2
    rw[← N1.out] at HW1
    rw[← N2.out] at HW2
    clear HL HT HBT HNT N1 N2
    cases hc1:m1.testBit jn with
    | true =>
     have HBV:Hid (B=false):=HBF.out (by rw[HD.out,hc1];rfl)
     rw[hc1] at HH1
     clear hc1 HD HBF
     go_wp2_with (first|(go_at_call 116;refine (HA.out _ (by (repeat (first|assumption|exact Below.refl _ _|refine keep_drew ?_|refine keep_alloc ?_ _|refine keep_trans ?_ (by assumption))))).mono ?_;rintro _ w6 ⟨rfl,hb6⟩)|(go_at_call 117;with_reducible refine (HH1.out _).mono ?_;rintro _ w7 ⟨rfl,rfl⟩)|(go_at_call 117;with_reducible refine (HH2.out _).mono ?_;rintro _ w7 ⟨rfl,rfl⟩)|(go_at_call 115;with_reducible refine (HW1.out _).mono ?_;rintro _ w7 ⟨rfl,rfl⟩)|(go_at_call 115;with_reducible refine (HW2.out _).mono ?_;rintro _ w7 ⟨rfl,rfl⟩)|fail)
     refine bodyPost_ret (v := .tuple #[.bool false,.int .i64 0]) ?_ rfl ⟨by rw[HBV.out,HE0.out],keep_trans hbw (show Below wr.heap.size wr w6 by (repeat (first|assumption|exact Below.refl _ _|refine keep_drew ?_|refine keep_alloc ?_ _|refine keep_trans ?_ (by assumption))))⟩
     simp[results,Tryz.f66,go_sem]
    | false =>
     rw[hc1] at HH1
     cases hc2:m2.testBit X with
     | true =>
      have HBV:Hid (B=false):=HBF.out (by rw[HD.out,hc1,hc2];rfl)
      rw[hc2] at HH2
      clear hc1 hc2 HD HBF
      go_wp2_with (first|(go_at_call 116;refine (HA.out _ (by (repeat (first|assumption|exact Below.refl _ _|refine keep_drew ?_|refine keep_alloc ?_ _|refine keep_trans ?_ (by assumption))))).mono ?_;rintro _ w6 ⟨rfl,hb6⟩)|(go_at_call 117;with_reducible refine (HH1.out _).mono ?_;rintro _ w7 ⟨rfl,rfl⟩)|(go_at_call 117;with_reducible refine (HH2.out _).mono ?_;rintro _ w7 ⟨rfl,rfl⟩)|(go_at_call 115;with_reducible refine (HW1.out _).mono ?_;rintro _ w7 ⟨rfl,rfl⟩)|(go_at_call 115;with_reducible refine (HW2.out _).mono ?_;rintro _ w7 ⟨rfl,rfl⟩)|fail)
      refine bodyPost_ret (v := .tuple #[.bool false,.int .i64 0]) ?_ rfl ⟨by rw[HBV.out,HE0.out],keep_trans hbw (show Below wr.heap.size wr w6 by (repeat (first|assumption|exact Below.refl _ _|refine keep_drew ?_|refine keep_alloc ?_ _|refine keep_trans ?_ (by assumption))))⟩
      simp[results,Tryz.f66,go_sem]
     | false =>
      have HTB:Hid (tb=true):=by unfold Hid;rw[HD.out,hc1,hc2];rfl
      rw[hc2] at HH2
      clear hc1 hc2 HD HBF
      go_wp2_with (first|(go_at_call 116;refine (HA.out _ (by (repeat (first|assumption|exact Below.refl _ _|refine keep_drew ?_|refine keep_alloc ?_ _|refine keep_trans ?_ (by assumption))))).mono ?_;rintro _ w6 ⟨rfl,hb6⟩)|(go_at_call 117;with_reducible refine (HH1.out _).mono ?_;rintro _ w7 ⟨rfl,rfl⟩)|(go_at_call 117;with_reducible refine (HH2.out _).mono ?_;rintro _ w7 ⟨rfl,rfl⟩)|(go_at_call 115;with_reducible refine (HW1.out _).mono ?_;rintro _ w7 ⟨rfl,rfl⟩)|(go_at_call 115;with_reducible refine (HW2.out _).mono ?_;rintro _ w7 ⟨rfl,rfl⟩)|fail)
      go_roundw
      case rel=>exact ⟨k+1,by omega,by go_num,rfl,rfl,HTR.out.trans HTB.out,keep_trans hbk.out (show Below wr.heap.size wr w6 by (repeat (first|assumption|exact Below.refl _ _|refine keep_drew ?_|refine keep_alloc ?_ _|refine keep_trans ?_ (by assumption))))⟩
      case measure=>simp[intOf];omega
   ·have e:k=nt:=by omega
    subst e
    have HBV:Hid (B=true):=by unfold Hid;rw[HBT.out,← htr.out,List.take_of_length_le (by rw[HTL.out];exact Nat.le_refl _)]
    go_wp2_with fail
    refine bodyPost_ret (v := .tuple #[.bool true,.int .i64 0]) ?_ rfl ⟨by rw[HBV.out,HE0.out],hbw⟩
    simp[results,Tryz.f66,go_sem]
theorem isT_c (r C:Int) (a:Option Addr) (m c:Nat) (cs:List Int) (tA:Option Addr) (nt ct:Nat) (ts:List Int) (w:World) (h:IC w a m cs) (ht:IC w tA nt ts) :
  Calls Tryz.prog 66 #[.agg #[.int .i64 r,.int .i64 C,.slice a m c],.slice tA nt ct] w fun e w'=>e = .returned (.tuple #[.bool (isTB r C cs ts),.int .i64 (isTE r C cs ts)])∧Below w.heap.size w w':=by
 have hl:=ht.len
 by_cases h0:isTF r C cs ts=0
 ·have h1:firstL [sqE 0 r C cs,whenV ((ts.length:Int) != r) 2]=0:=h0
  have hA:=(firstL_cons0 h1).1
  have hB:=(firstL_cons0 (firstL_cons0 h1).2).1
  obtain ⟨N,rfl,rfl,L⟩:=sqE_ok hA
  have hn:nt=N:=by
   by_cases e:(ts.length:Int)=(N:Int)
   ·omega
   ·have:((ts.length:Int) != (N:Int))=true:=by simpa using e
    rw[this] at hB
    exact absurd hB (by decide)
  refine ist_ok N a m c cs tA nt ct ts w h ht L hA hn _ _ ?_ ?_
  ·unfold isTE;rw[if_pos h0,hl]
  ·rfl
 ·have h1:isTE r C cs ts=isTF r C cs ts:=if_neg h0
  have h2:isTB r C cs ts=false:=by unfold isTB;rw[h1,decide_eq_false h0];rfl
  rw[h1,h2]
  exact ist_bad r C a m c cs tA nt ct w h _ (by rw[← hl];rfl) h0
end
section
open Go Go.RowKit
attribute [local go_sem] over_cell
attribute [local go_sem] Oper.semAt_some
theorem lgreat_c (r C:Int) (a:Option Addr) (m c:Nat) (k:Int) (w:World):Calls Tryz.prog 19 #[.agg #[.int .i64 r,.int .i64 C,.slice a m c],.int .i64 k] w fun e w'=>e = .returned (.bool (decide (k<(m:Int))))∧Below w.heap.size w w':=by
 go_enter Tryz.func19,Tryz.ntmps19
 go_upto_region 1 with fail
 have fsz:(w.alloc (.cells #[.int .i64 r,.int .i64 C,.slice a m c] 24)).heap.size=w.heap.size+1:=by simp only[World.size_alloc]
 have fB:Below w.heap.size w (w.alloc (.cells #[.int .i64 r,.int .i64 C,.slice a m c] 24)):=(Below.refl _ _).alloc (Nat.le_refl _) _
 have fq0:(w.alloc (.cells #[.int .i64 r,.int .i64 C,.slice a m c] 24)).heap[w.heap.size]?=some (.cells #[.int .i64 r,.int .i64 C,.slice a m c] 24 (0,0)):=by have h:=World.alloc_heap_new w (.cells #[.int .i64 r,.int .i64 C,.slice a m c] 24);exact h
 generalize (w.alloc (.cells #[.int .i64 r,.int .i64 C,.slice a m c] 24))=W0 at fsz fB fq0 ⊢
 obtain ⟨x0,x1,x2,xl⟩:=c3_of fq0
 clear fq0 fsz
 go_wp2_with fail
 refine bodyPost_ret (v := .bool (decide (k<(m:Int)))) ?_ rfl ⟨rfl,fB⟩
 simp[results,Tryz.f19,go_sem]
end
section
open Go Go.RowKit
theorem comp_pair {C:Nat} {l:List Int}:∀{f k:Nat} {cs X:List Int},k+f=cs.length→(∀i,k≤i→i<cs.length→cs[i]?.getD 0<0)→(∀c d,c<d→d<k→¬(l[c]?.getD 0=l[d]?.getD 0∧cs[c]?.getD 0=cs[d]?.getD 0))→X∈compP C (pairB l) f k cs →
  ∀c d,c<d→d<cs.length→¬(l[c]?.getD 0=l[d]?.getD 0∧X[c]?.getD 0=X[d]?.getD 0):=by
 intro f
 induction f with
 | zero =>
  intro k cs X hk _ hp hX
  unfold compP at hX
  rw[List.mem_singleton] at hX
  subst hX
  exact fun c d h1 h2=>hp c d h1 (by omega)
 | succ f ih =>
  intro k cs X hk ho hp hX
  unfold compP at hX
  have h0:=ho k (Nat.le_refl _) (by omega)
  rw[if_neg (by omega),List.mem_flatMap] at hX
  obtain ⟨x,_,hX⟩:=hX
  split at hX
  ·rename_i hb
   rw[Bool.and_eq_true] at hb
   have hpb:=hb.1
   unfold pairB at hpb
   rw[List.all_eq_true] at hpb
   have hkl:k<cs.length:=by omega
   have:=ih (k:=k+1) (cs:=cs.set k (x:Int)) (by rw[List.length_set];omega) (fun i h1 h2=>by
    rw[List.length_set] at h2
    rw[gset_get hkl,if_neg (by omega)]
    exact ho i (by omega) h2) (fun c d h1 h2=>by
    rw[gset_get hkl,gset_get hkl,if_neg (by omega)]
    by_cases e:d=k
    ·subst e
     rw[if_pos rfl]
     have h3:=hpb c (List.mem_range.2 h1)
     rw[Bool.not_eq_true',Bool.and_eq_false_iff,beq_eq_false_iff_ne,beq_eq_false_iff_ne] at h3
     rintro ⟨e1,e2⟩
     rcases h3 with h3|h3
     ·exact h3 e1
     ·exact h3 e2
    ·rw[if_neg e]
     exact hp c d h1 (by omega)) hX
   intro c d h1 h2
   exact this c d h1 (by rw[List.length_set];exact h2)
  ·exact absurd hX (by simp)
theorem mate_sound {n:Nat} {cs ds:List Int} (L:Latin n cs) (h:mtO n cs=some ds):Latin n ds∧Ortho cs ds:=by
 have hm:ds∈compP n (pairB cs) (n*n) 0 (blankL n):=List.mem_of_mem_head? (by unfold mtO at h;exact h)
 have P:=blank_part n L.pos L.le
 have hl:=P.len
 obtain ⟨a1,a2,a3,a4⟩:=comp_sound (k:=0) (by rw[hl];omega) (fun i hi=>absurd hi (by omega)) (fun x hx=>by
  obtain ⟨i,hi,rfl⟩:=List.getElem_of_mem hx
  have:=P.lt i
  rw[List.getElem?_eq_getElem hi,Option.getD_some] at this
  exact this) (once_iff.1 P.once) hm
 refine ⟨⟨by rw[a1.1,hl],L.pos,L.le,fun x hx=>?_,once_iff.2 a4⟩,fun c d h1 h2=>?_⟩
 ·obtain ⟨i,hi,rfl⟩:=List.getElem_of_mem hx
  have:=a2 i
  rw[List.getElem?_eq_getElem hi,Option.getD_some] at this
  exact ⟨this,a3 _ (List.getElem_mem _)⟩
 ·have:=comp_pair (k:=0) (by rw[hl];omega) (fun i _ hi=>by rw[blank_get,if_pos (by rw[hl] at hi;exact hi)];omega) (fun c d _ h3=>absurd h3 (by omega)) hm c d h1 (by rw[hl,← L.len];exact h2)
  unfold pairEq
  rw[Bool.eq_false_iff]
  intro e
  rw[Bool.and_eq_true,beq_iff_eq,beq_iff_eq] at e
  exact this e
theorem ortho_comm {cs ds:List Int} (hl:cs.length=ds.length) (h:Ortho cs ds):Ortho ds cs:=fun c d h1 h2=>by
 have:=h c d h1 (by omega)
 unfold pairEq at this ⊢
 rw[Bool.and_comm];exact this
theorem transL_mem {n:Nat} {cs:List Int}:∀{f:Nat} {t X:List Int},X.length=t.length+f→(∃u,X=t++u)→(∀y,y∈X→0≤y∧y<(n:Int))→(∀k,t.length≤k→k≤X.length→transB n cs (X.take k)=true)→X∈transL n cs f t:=by
 intro f
 induction f with
 | zero =>
  rintro t X hl ⟨u,rfl⟩ _ _
  have:u=[]:=List.eq_nil_of_length_eq_zero (by rw[List.length_append] at hl;omega)
  subst this
  unfold transL
  simp
 | succ f ih =>
  rintro t X hl ⟨u,rfl⟩ hr hb
  cases u with
  | nil=>rw[List.append_nil] at hl;omega
  | cons x u =>
   have hx:=hr x (by simp)
   unfold transL
   rw[List.mem_flatMap]
   refine ⟨x.toNat,List.mem_range.2 (by omega),?_⟩
   have hxn:((x.toNat:Nat):Int)=x:=by omega
   rw[hxn]
   have hb1:=hb (t.length+1) (by omega) (by simp)
   have htk:(t++x :: u).take (t.length+1)=t++[x]:=by
    rw[List.take_append,List.take_of_length_le (by omega)]
    simp
   rw[htk] at hb1
   rw[if_pos hb1]
   have e:t++x :: u=(t++[x])++u:=by simp
   rw[e] at hl hr hb ⊢
   exact ih (by rw[hl];simp only[List.length_append,List.length_singleton];omega) ⟨u,rfl⟩ hr (fun k h1 h2=>hb k (by simp only[List.length_append,List.length_singleton] at h1;omega) h2)
theorem transB_tk {n:Nat} {cs t:List Int} (h:transB n cs t=true) (k:Nat):transB n cs (t.take k)=true:=by
 unfold transB at h ⊢
 rw[List.all_eq_true] at h ⊢
 intro i hi
 rw[List.mem_range,List.length_take] at hi
 have h1:=h i (List.mem_range.2 (by omega))
 rw[List.all_eq_true] at h1 ⊢
 intro j hj
 have h2:=h1 j hj
 rw[List.mem_range] at hj
 rw[List.getElem?_take_of_lt (by omega),List.getElem?_take_of_lt (by omega)]
 exact h2
theorem transL_has {n:Nat} {cs t:List Int} (h:transB n cs t=true) (hl:t.length=n) (hr:∀y,y∈t→0≤y∧y<(n:Int)):t∈transL n cs n [] :=
 transL_mem (by simpa using hl) ⟨t,rfl⟩ hr (fun k _ _=>transB_tk h k)
theorem transL_sound {n:Nat} {cs:List Int}:∀{f:Nat} {t X:List Int},X∈transL n cs f t→transB n cs t=true→(∀y,y∈t→0≤y∧y<(n:Int))→transB n cs X=true∧X.length=t.length+f∧∀y,y∈X→0≤y∧y<(n:Int)
 | 0,t,X,hX,h1,h2=>by
  unfold transL at hX
  rw[List.mem_singleton] at hX
  subst hX
  exact ⟨h1,rfl,h2⟩
 | f+1,t,X,hX,_,h2=>by
  unfold transL at hX
  rw[List.mem_flatMap] at hX
  obtain ⟨j,hj,hX⟩:=hX
  rw[List.mem_range] at hj
  split at hX
  ·rename_i hb
   obtain ⟨a1,a2,a3⟩:=transL_sound hX hb (fun y hy=>by
    rcases List.mem_append.1 hy with hy|hy
    ·exact h2 y hy
    ·rw[List.mem_singleton] at hy;omega)
   refine ⟨a1,?_,a3⟩
   rw[a2,List.length_append,List.length_singleton];omega
  ·exact absurd hX (by simp)
theorem nodupA_le {α:Type} [DecidableEq α]:∀{l m:List α},l.Nodup→(∀x,x∈l→x∈m)→l.length≤m.length
 | [],_,_,_=>Nat.zero_le _
 | x :: l,m,hn,hs=>by
  rw[List.nodup_cons] at hn
  have hx:=hs x List.mem_cons_self
  have h:=nodupA_le (l:=l) (m:=m.erase x) hn.2 (fun y hy=>(List.mem_erase_of_ne (fun e=>hn.1 (by rw[← e];exact hy))).2 (hs y (List.mem_cons_of_mem _ hy)))
  rw[List.length_erase_of_mem hx] at h
  have:=List.length_pos_of_mem hx
  simp only[List.length_cons]
  omega
theorem mate_many {n:Nat} {cs ds:List Int} (L:Latin n cs) (D:Latin n ds) (hO:Ortho cs ds):n≤(transL n cs n []).length:=by
 have hc:∀m,m≤n→∃T:List (List Int),T.length=m∧T.Nodup∧(∀t,t∈T→t∈transL n cs n [])∧∀t,t∈T→symAt n ds 0 (t[0]?.getD 0)<(m:Int):=by
  intro m
  induction m with
  | zero=>intro _;exact ⟨[],rfl,List.nodup_nil,fun t ht=>(by cases ht),fun t ht=>(by cases ht)⟩
  | succ m ih =>
   intro hm
   obtain ⟨T,a1,a2,a3,a4⟩:=ih (by omega)
   obtain ⟨t,b1,b2,b3,b4⟩:=orth_trans L D hO (x:=(m:Int)) (by omega) (by omega)
   have b5:=b4 0 (by omega)
   refine ⟨t :: T,by rw[List.length_cons,a1],List.nodup_cons.2 ⟨fun e=>?_,a2⟩,fun u hu=>?_,fun u hu=>?_⟩
   ·have:=a4 t e;omega
   ·rcases List.mem_cons.1 hu with e|e
    ·rw[e];exact transL_has b3 b1 b2
    ·exact a3 u e
   ·rcases List.mem_cons.1 hu with e|e
    ·rw[e,b5];omega
    ·have:=a4 u e;omega
 obtain ⟨T,a1,a2,a3,_⟩:=hc n (Nat.le_refl _)
 have:=nodupA_le a2 a3
 omega
theorem refuted_none {n:Nat} {cs:List Int} {d:Int} (L:Latin n cs) (hd:refuB n cs d=true):transL n cs n []=[]:=by
 cases h:transL n cs n [] with
 | nil=>rfl
 | cons X l =>
  have hX:X∈transL n cs n []:=by rw[h];exact List.mem_cons_self
  obtain ⟨a1,a2,a3⟩:=transL_sound hX (by unfold transB;rfl) (fun y hy=>by cases hy)
  exact (refuted L hd a1 (by rw[a2];simp) a3).elim
def colsTo (n:Nat) (ds:List Int) (x:Int):Nat→List Int
 | 0=>List.replicate n 0
 | k+1=>if ds[k]?.getD 0=x then (colsTo n ds x k).set (k / n) ((k % n:Nat):Int) else colsTo n ds x k
theorem colsTo_len (n:Nat) (ds:List Int) (x:Int):∀k,(colsTo n ds x k).length=n
 | 0=>by unfold colsTo;simp
 | k+1=>by
  unfold colsTo
  split
  ·rw[List.length_set,colsTo_len n ds x k]
  ·exact colsTo_len n ds x k
theorem colsTo_at {n:Nat} {ds:List Int} (D:Latin n ds) (x:Int):∀k,k≤n*n→∀c,c<k→ds[c]?.getD 0=x→(colsTo n ds x k)[c / n]?.getD 0=((c % n:Nat):Int)
 | 0,_,c,hc,_=>absurd hc (by omega)
 | k+1,hk,c,hc,hx=>by
  have hdn:∀c,c<n*n→c / n<n:=fun c hc=>Nat.div_lt_of_lt_mul hc
  unfold colsTo
  by_cases e:c=k
  ·subst e
   rw[if_pos hx,gset_get (by rw[colsTo_len];exact hdn c (by omega)),if_pos rfl]
  ·have ih:=colsTo_at D x k (by omega) c (by omega) hx
   split
   ·rename_i hk2
    rw[gset_get (by rw[colsTo_len];exact hdn k (by omega)),if_neg,ih]
    intro e2
    have h2:=once_iff.1 D.once c k (by rw[D.len];omega) (by rw[D.len];omega) e (by unfold lineB;rw[e2];simp) (by rw[hx,hk2])
    have:=(D.get (c:=c) (by omega)).1
    omega
   ·exact ih
theorem cols_trans {n:Nat} {cs ds:List Int} (L:Latin n cs) (D:Latin n ds) (hO:Ortho cs ds) {x:Int} (h0:0≤x) (h1:x<(n:Int)):(∀y,y∈colsTo n ds x (n*n)→0≤y∧y<(n:Int))∧transB n cs (colsTo n ds x (n*n))=true:=by
 obtain ⟨t,a1,a2,a3,a4⟩:=orth_trans L D hO h0 h1
 have he:colsTo n ds x (n*n)=t:=by
  apply List.ext_getElem
  ·rw[colsTo_len,a1]
  ·intro i hi hi2
   rw[colsTo_len] at hi
   have ht:0≤t[i]?.getD 0∧t[i]?.getD 0<(n:Int):=by
    rw[List.getElem?_eq_getElem hi2,Option.getD_some];exact a2 _ (List.getElem_mem _)
   have h3:=colsTo_at D x (n*n) (Nat.le_refl _) (i*n+(t[i]?.getD 0).toNat) (row_lt hi ht.1 ht.2) (a4 i hi)
   rw[(row_div ht.1 ht.2).1,(row_div ht.1 ht.2).2,List.getElem?_eq_getElem (by rw[colsTo_len];exact hi),Option.getD_some,List.getElem?_eq_getElem hi2,Option.getD_some] at h3
   rw[h3]
   rw[List.getElem?_eq_getElem hi2,Option.getD_some] at ht
   omega
 rw[he]
 exact ⟨a2,a3⟩
end
section
theorem lat_sqE {n:Nat} {cs:List Int} (L:Latin n cs):sqE 0 (n:Int) (n:Int) cs=0:=by
 have h1:sqB (n:Int) (n:Int) cs=true:=by
  unfold sqB
  rw[L.len,← Int.natCast_mul]
  simp only[Bool.and_eq_true,decide_eq_true_eq]
  exact ⟨⟨⟨trivial,by have:=L.pos;omega⟩,by have:=L.le;omega⟩,trivial⟩
 unfold sqE
 rw[if_pos h1]
 unfold symE
 rw[if_neg,if_neg]
 ·rw[Int.toNat_natCast,L.once];decide
 ·rw[Bool.not_eq_true,List.any_eq_false]
  intro x hx
  have:=L.num x hx
  simp only[Bool.or_eq_true,decide_eq_true_eq,Int.toNat_natCast]
  omega
end
end Go.Proofs.YtmfpdakaeagdpaaGreat
