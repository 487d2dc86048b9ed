/- Texts J132 to J133 of this proof, in one file. -/
import Derived.Test.YtmfpdakaeagdpaaGreatW01
import Derived.Test.YtmfpdakaeagdpaaGreatW02
import Derived.Test.YtmfpdakaeagdpaaGreatW03
import Derived.Test.YtmfpdakaeagdpaaGreatW04
import Derived.Test.YtmfpdakaeagdpaaGreatW05
import Derived.Test.YtmfpdakaeagdpaaGreatW06
import Derived.Test.YtmfpdakaeagdpaaGreatW07
import Derived.Test.YtmfpdakaeagdpaaGreatW08
import Derived.Test.YtmfpdakaeagdpaaGreatW09
import Derived.Test.YtmfpdakaeagdpaaGreatW10
import Derived.Test.YtmfpdakaeagdpaaGreatW11
import Derived.Test.YtmfpdakaeagdpaaGreatW12
import Derived.Test.YtmfpdakaeagdpaaGreatW13
import Derived.Test.YtmfpdakaeagdpaaGreatW14
import Derived.Test.YtmfpdakaeagdpaaGreatW15
import Derived.Test.YtmfpdakaeagdpaaGreatW16
import Derived.Test.YtmfpdakaeagdpaaGreatW17
import Derived.Test.YtmfpdakaeagdpaaGreatW18
import Derived.Test.YtmfpdakaeagdpaaGreatW19
import Derived.Test.YtmfpdakaeagdpaaGreatW20
import Derived.Test.YtmfpdakaeagdpaaGreatW21
import Derived.Test.YtmfpdakaeagdpaaGreatW22
import Derived.Test.YtmfpdakaeagdpaaGreatW23
import Derived.Test.YtmfpdakaeagdpaaGreatW24
import Derived.Test.YtmfpdakaeagdpaaGreatW25
import Derived.Test.YtmfpdakaeagdpaaGreatW26
import Derived.Test.YtmfpdakaeagdpaaGreatW27
import Derived.Test.YtmfpdakaeagdpaaGreatX23n01
import Derived.Test.YtmfpdakaeagdpaaGreatX23n02
import Derived.Below
import Derived.BigFrame
import Derived.BigQuiet
import Derived.Deep.CutBlock
import Derived.Deep.CutRange
import Derived.Deep.LoopGhost
import Derived.Deep.Quiet
import Derived.Deep.RegionHeld3
import Derived.DeepKeys4
import Derived.KernelRfl
import Derived.Laws.BitsAllLaws
import Derived.Laws.EntriesVeiled
import Derived.Lib.AppendZeros
import Derived.Lib.Hide
import Derived.Lib.SlKeysI
import Derived.Lib.SliceRun
import Derived.LoopIn
import Derived.LoopNIn
import Derived.Maps.AppendAt
import Derived.Maps.OwnIn
import Derived.Maps.OwnSet
import Derived.OneCell
import Derived.OrdersHeld
import Derived.OrdersIn
import Derived.OwnWalkIn
import Derived.RangeFuncBound
import Derived.RangeFuncBox
import Derived.RangeFuncCalls
import Derived.RangeFuncLeaves
import Derived.RangeFuncNested
import Derived.RangeFuncWrites
import Derived.Shelf.Abstract
import Derived.Shelf.SortM.Plain
import Derived.Still
import Derived.TacticsIn
import Derived.TacticsInMore
import Derived.Test.YtmfpdakaeagdpaaGreatProg
import Derived.WalkKit
import Derived.WalkLawsBesides
import Derived.WalkSpells
import Derived.WideKeyPair
namespace Go.Proofs.YtmfpdakaeagdpaaGreat
set_option maxRecDepth 100000
set_option maxHeartbeats 16000000
section
open Go Go.RowKit
attribute [local go_sem] over_cell
attribute [local go_sem] Oper.semAt_some
def reE (R C:Int) (cs:List Int):Int:=if exB R C cs=true then symE 0 C.toNat cs else 2
theorem rcrect_c (R C:Int) (a:Option Addr) (n c:Nat) (cs:List Int) (w:World) (h:IC w a n cs) (hn:n≤65536) :
  Calls Tryz.prog 39 #[.agg #[.int .i64 R,.int .i64 C,.slice a n c]] w fun e w'=>e = .returned (.int .i64 (reE R C cs))∧Below w.heap.size w w':=by
 have hln:=h.len
 have hno:exB R C cs=false→reE R C cs=2:=fun e=>by unfold reE;rw[e];rfl
 by_cases c1:C<1
 ·have d1:decide (C<1)=true:=decide_eq_true c1
  have HE:=Lib.hid (hno (by unfold exB;rw[decide_eq_false (show ¬1≤C by omega)];rfl))
  clear hno h hln
  go_enter Tryz.func39,Tryz.ntmps39
  go_upto_region 1 with fail
  have fB:Below w.heap.size w (w.alloc (.cells #[.int .i64 R,.int .i64 C,.slice a n c] 24)):=(Below.refl _ _).alloc (Nat.le_refl _) _
  have FQ:Hid ((w.alloc (.cells #[.int .i64 R,.int .i64 C,.slice a n c] 24)).heap[w.heap.size]?=some (.cells #[.int .i64 R,.int .i64 C,.slice a n c] 24 (0,0))):=World.alloc_heap_new _ _
  generalize (w.alloc (.cells #[.int .i64 R,.int .i64 C,.slice a n c] 24))=W0 at fB FQ ⊢
  obtain ⟨x0,x1,x2,xl⟩:=c3_of FQ.out
  have FB:=Lib.hid fB
  clear fB
  go_wp2_with fail
  refine bodyPost_ret (v := .int .i64 2) ?_ rfl ⟨by rw[HE.out],FB.out⟩
  simp[results,Tryz.f39,go_sem]
 have d1:decide (C<1)=false:=decide_eq_false c1
 by_cases c2:16<C
 ·have d2:decide (16<C)=true:=decide_eq_true c2
  have HE:=Lib.hid (hno (by unfold exB;rw[decide_eq_false (show ¬C≤16 by omega)];simp))
  clear hno h hln
  go_enter Tryz.func39,Tryz.ntmps39
  go_upto_region 1 with fail
  have fB:Below w.heap.size w (w.alloc (.cells #[.int .i64 R,.int .i64 C,.slice a n c] 24)):=(Below.refl _ _).alloc (Nat.le_refl _) _
  have FQ:Hid ((w.alloc (.cells #[.int .i64 R,.int .i64 C,.slice a n c] 24)).heap[w.heap.size]?=some (.cells #[.int .i64 R,.int .i64 C,.slice a n c] 24 (0,0))):=World.alloc_heap_new _ _
  generalize (w.alloc (.cells #[.int .i64 R,.int .i64 C,.slice a n c] 24))=W0 at fB FQ ⊢
  obtain ⟨x0,x1,x2,xl⟩:=c3_of FQ.out
  have FB:=Lib.hid fB
  clear fB
  go_wp2_with fail
  refine bodyPost_ret (v := .int .i64 2) ?_ rfl ⟨by rw[HE.out],FB.out⟩
  simp[results,Tryz.f39,go_sem]
 have d2:decide (16<C)=false:=decide_eq_false c2
 by_cases c3:R<0
 ·have d3:decide (R<0)=true:=decide_eq_true c3
  have HE:=Lib.hid (hno (by unfold exB;rw[decide_eq_false (show ¬0≤R by omega)];simp))
  clear hno h hln
  go_enter Tryz.func39,Tryz.ntmps39
  go_upto_region 1 with fail
  have fB:Below w.heap.size w (w.alloc (.cells #[.int .i64 R,.int .i64 C,.slice a n c] 24)):=(Below.refl _ _).alloc (Nat.le_refl _) _
  have FQ:Hid ((w.alloc (.cells #[.int .i64 R,.int .i64 C,.slice a n c] 24)).heap[w.heap.size]?=some (.cells #[.int .i64 R,.int .i64 C,.slice a n c] 24 (0,0))):=World.alloc_heap_new _ _
  generalize (w.alloc (.cells #[.int .i64 R,.int .i64 C,.slice a n c] 24))=W0 at fB FQ ⊢
  obtain ⟨x0,x1,x2,xl⟩:=c3_of FQ.out
  have FB:=Lib.hid fB
  clear fB
  go_wp2_with fail
  refine bodyPost_ret (v := .int .i64 2) ?_ rfl ⟨by rw[HE.out],FB.out⟩
  simp[results,Tryz.f39,go_sem]
 have d3:decide (R<0)=false:=decide_eq_false c3
 by_cases c4:C<R
 ·have d4:decide (C<R)=true:=decide_eq_true c4
  have HE:=Lib.hid (hno (by unfold exB;rw[decide_eq_false (show ¬R≤C by omega)];simp))
  clear hno h hln
  go_enter Tryz.func39,Tryz.ntmps39
  go_upto_region 1 with fail
  have fB:Below w.heap.size w (w.alloc (.cells #[.int .i64 R,.int .i64 C,.slice a n c] 24)):=(Below.refl _ _).alloc (Nat.le_refl _) _
  have FQ:Hid ((w.alloc (.cells #[.int .i64 R,.int .i64 C,.slice a n c] 24)).heap[w.heap.size]?=some (.cells #[.int .i64 R,.int .i64 C,.slice a n c] 24 (0,0))):=World.alloc_heap_new _ _
  generalize (w.alloc (.cells #[.int .i64 R,.int .i64 C,.slice a n c] 24))=W0 at fB FQ ⊢
  obtain ⟨x0,x1,x2,xl⟩:=c3_of FQ.out
  have FB:=Lib.hid fB
  clear fB
  go_wp2_with fail
  refine bodyPost_ret (v := .int .i64 2) ?_ rfl ⟨by rw[HE.out],FB.out⟩
  simp[results,Tryz.f39,go_sem]
 have d4:decide (C<R)=false:=decide_eq_false c4
 obtain ⟨r,rfl⟩:∃r:Nat,R=(r:Int):=⟨R.toNat,by omega⟩
 obtain ⟨k,rfl⟩:∃k:Nat,C=(k:Int):=⟨C.toNat,by omega⟩
 have hmm:r*k≤16*16:=Nat.mul_le_mul (by omega) (by omega)
 have hp:(r:Int)*(k:Int)=((r*k:Nat):Int):=(Int.natCast_mul _ _).symm
 by_cases c5:n=r*k
 ·have HE:Hid (reE (r:Int) (k:Int) cs=symE 0 k cs):=by
   unfold Hid reE
   rw[if_pos,Int.toNat_natCast]
   unfold exB
   rw[hln,hp,c5]
   simp only[Bool.and_eq_true,decide_eq_true_eq]
   refine ⟨⟨⟨⟨?_,?_⟩,?_⟩,?_⟩,?_⟩ <;> first|omega|trivial|rfl
  have d5:((n:Int) != ((r*k:Nat):Int))=false:=by rw[c5];simp
  generalize r*k=p at hmm hp d5
  have HS:=Lib.hid (fun W (hb:Below w.heap.size w W)=>rlsym_c (r:Int) k a n c cs 0 W (h.mono hb) (by omega) hn)
  generalize symE 0 k cs=er at HS HE
  clear hno h hln c5
  go_enter Tryz.func39,Tryz.ntmps39
  go_upto_region 1 with fail
  have fB:Below w.heap.size w (w.alloc (.cells #[.int .i64 (r:Int),.int .i64 (k:Int),.slice a n c] 24)):=(Below.refl _ _).alloc (Nat.le_refl _) _
  have FQ:Hid ((w.alloc (.cells #[.int .i64 (r:Int),.int .i64 (k:Int),.slice a n c] 24)).heap[w.heap.size]?=some (.cells #[.int .i64 (r:Int),.int .i64 (k:Int),.slice a n c] 24 (0,0))):=World.alloc_heap_new _ _
  generalize (w.alloc (.cells #[.int .i64 (r:Int),.int .i64 (k:Int),.slice a n c] 24))=W0 at fB FQ ⊢
  obtain ⟨x0,x1,x2,xl⟩:=c3_of FQ.out
  have FB:=Lib.hid fB
  clear fB
  go_wp2_with (first|(go_at_call 100;(with_reducible refine (HS.out _ FB.out).mono ?_);rintro _ w5 ⟨rfl,hb5⟩)|fail)
  refine bodyPost_ret (v := .int .i64 er) ?_ rfl ⟨by rw[HE.out],keep_trans FB.out hb5⟩
  simp[results,Tryz.f39,go_sem]
 ·have HE:=Lib.hid (hno (by
   unfold exB
   rw[hln,hp,decide_eq_false (show ¬(n:Int)=((r*k:Nat):Int) by omega),Bool.and_false]))
  have d5:((n:Int) != ((r*k:Nat):Int))=true:=by simpa using (show ¬(n:Int)=((r*k:Nat):Int) by omega)
  generalize r*k=p at hmm hp d5
  clear hno h hln c5
  go_enter Tryz.func39,Tryz.ntmps39
  go_upto_region 1 with fail
  have fB:Below w.heap.size w (w.alloc (.cells #[.int .i64 (r:Int),.int .i64 (k:Int),.slice a n c] 24)):=(Below.refl _ _).alloc (Nat.le_refl _) _
  have FQ:Hid ((w.alloc (.cells #[.int .i64 (r:Int),.int .i64 (k:Int),.slice a n c] 24)).heap[w.heap.size]?=some (.cells #[.int .i64 (r:Int),.int .i64 (k:Int),.slice a n c] 24 (0,0))):=World.alloc_heap_new _ _
  generalize (w.alloc (.cells #[.int .i64 (r:Int),.int .i64 (k:Int),.slice a n c] 24))=W0 at fB FQ ⊢
  obtain ⟨x0,x1,x2,xl⟩:=c3_of FQ.out
  have FB:=Lib.hid fB
  clear fB
  go_wp2_with fail
  refine bodyPost_ret (v := .int .i64 2) ?_ rfl ⟨by rw[HE.out],FB.out⟩
  simp[results,Tryz.f39,go_sem]
def leftH (l:List Int) (k:Nat):List Int:=((List.range k).filter fun (x:Nat)=>!hasB l (x:Int)).map fun (x:Nat)=>(x:Int)
theorem leftH_succ (l:List Int) (k:Nat):leftH l (k+1)=if hasB l (k:Int)=true then leftH l k else leftH l k++[(k:Int)]:=by
 unfold leftH
 rw[List.range_succ,List.filter_append,List.map_append]
 cases h:hasB l (k:Int) with
 | true=>rw[if_pos rfl];simp[h]
 | false=>rw[if_neg (by decide)];simp[h]
theorem leftH_len (l:List Int) (k:Nat):(leftH l k).length≤k:=by
 unfold leftH
 rw[List.length_map]
 exact Nat.le_trans (List.length_filter_le _ _) (by simp)
theorem leftR_atH {C R:Nat} {cs:List Int} {j:Nat} (hj:j<C) (h0:∀k:Nat,0≤cs[k]?.getD 0):(leftR C R cs)[j]?.getD []=leftH (colL C cs j R) C:=by
 unfold leftR
 rw[List.getElem?_map,List.getElem?_range hj,Option.map_some,Option.getD_some]
 unfold leftH
 congr 1
 apply List.filter_congr
 intro x _
 have h2:(x:Int)∈colL C cs j R↔x∈colN C R cs j:=by
  unfold colL colN symN
  rw[List.mem_map,List.mem_map]
  constructor
  ·rintro ⟨i,hi,e⟩
   exact ⟨i,hi,by rw[e];rfl⟩
  ·rintro ⟨i,hi,e⟩
   exact ⟨i,hi,by rw[← e];have:=h0 (i*C+j);omega⟩
 unfold hasB
 by_cases hb:x∈colN C R cs j
 ·have hin:=h2.2 hb
  simp[hb,hin]
 ·have hn:¬(x:Int)∈colL C cs j R:=fun h=>hb (h2.1 h)
  simp[hb,hn]
theorem colL_len (C:Nat) (cs:List Int) (j i:Nat):(colL C cs j i).length=i:=by unfold colL;simp
def LeftE (w:World) (xss:List (List Int)) (e:Ending) (w':World):Prop:=∃a2 c2,e = .returned (.slice a2 xss.length c2)∧RC w' a2 xss.length xss∧Below w.heap.size w w'
theorem rleft_c (R C:Nat) (a:Option Addr) (n c:Nat) (cs:List Int) (w:World) (h:IC w a n cs) (hC1:1≤C) (hC2:C≤16) (hRC:R≤C) (hn:n=R*C) (h0:∀k:Nat,0≤cs[k]?.getD 0) :
  Calls Tryz.prog 119 #[.agg #[.int .i64 (R:Int),.int .i64 (C:Int),.slice a n c]] w (LeftE w (leftR C R cs)):=by
 have HNN:=Lib.hid h0
 have HLB:=Lib.hid (leftR_B (C:=C) (R:=R) (cs:=cs) hC2)
 have HN:Hid (n=R*C):=hn
 have HH:=Lib.hid h
 have hnn:n≤256:=by rw[hn];exact Nat.mul_le_mul (show R≤16 by omega) hC2
 clear h0 hn h
 obtain ⟨i0,hi,hz0,hz1,hz2⟩:=info_parts infoInt
 obtain ⟨i2,hi2,hy0,hy1,hy2⟩:=info_parts infoRow
 go_enter Tryz.func119,Tryz.ntmps119
 go_upto_region 1 with fail
 have fB:Below w.heap.size w (w.alloc (.cells #[.int .i64 (R:Int),.int .i64 (C:Int),.slice a n c] 24)):=(Below.refl _ _).alloc (Nat.le_refl _) _
 have FQ:Hid ((w.alloc (.cells #[.int .i64 (R:Int),.int .i64 (C:Int),.slice a n c] 24)).heap[w.heap.size]?=some (.cells #[.int .i64 (R:Int),.int .i64 (C:Int),.slice a n c] 24 (0,0))):=World.alloc_heap_new _ _
 generalize (w.alloc (.cells #[.int .i64 (R:Int),.int .i64 (C:Int),.slice a n c] 24))=W2 at fB FQ ⊢
 obtain ⟨x0,x1,x2,xl⟩:=c3_of FQ.out
 have HB2:=Lib.hid fB
 have HI2:=Lib.hid (HH.out.mono fB)
 have P0:=Lib.hid FQ.out
 clear fB x0 x1 x2 xl
 go_wp2_with fail
 go_loopw [3,4,5,6,7,8] (fun s3 s4 _ _ _ _ wr=>∃(j:Nat) (pre:List (Value × List Int)) (aS:Option Addr) (cS:Nat),j≤C∧s4 = .int .i64 (j:Int)∧s3 = .slice aS pre.length cS∧pre.length=j∧Hid (ExI W2 C R cs (.slice aS pre.length cS) pre j wr)) (fun _ s4 _ _ _ _ _=>C - (intOf s4).toNat)
 case atStart=>exact ⟨0,[],none,0,by omega,rfl,rfl,rfl,⟨RowsI.nil _ _ _,by rw[List.take_zero];rfl,Below.refl _ _⟩⟩
 case round =>
  obtain ⟨j,pre,aS,cS,hj,rfl,rfl,hpl,hex⟩:=hrel
  have HPL:=Lib.hid hpl
  have HBW:=Lib.hid hex.out.base
  obtain ⟨x0,x1,x2,xl⟩:=c3_of (keepq HBW.out P0.out)
  by_cases hlt:j<C
  ·have hjI:(j:Int)<(C:Int):=by omega
   clear hpl
   go_wp2_with fail
   go_loopw [5,7] (fun s5 s7 wr9=>∃(i:Nat) (aL:Option Addr) (cL:Nat),i≤R∧s7 = .int .i64 (i:Int)∧s5 = .slice aL (colL C cs j i).length cL∧Hid (wr9.ownsRow wr.heap.size 3 1 (.slice aL (colL C cs j i).length cL) (colL C cs j i).length ((colL C cs j i).map (Value.int .i64)))∧Hid (Below wr.heap.size wr wr9)) (fun _ s7 _=>R - (intOf s7).toNat)
   case atStart=>exact ⟨0,none,0,by omega,rfl,rfl,World.ownsRow_nil _ _ _ _,Below.refl _ _⟩
   case round =>
    obtain ⟨i,aL,cL,hi1,rfl,rfl,hoC,hb9⟩:=hrel
    clear x0 x1 x2 xl
    have hbi:=keep_trans HBW.out hb9.out
    obtain ⟨x0,x1,x2,xl⟩:=c3_of (keepq hbi P0.out)
    have HBI:=Lib.hid hbi
    have HCLN:=Lib.hid (colL_len C cs j i)
    have hsz9:=hb9.out.size
    by_cases hlt2:i<R
    ·have hiI:(i:Int)<(R:Int):=by omega
     have hcr:=cellR_lt (i:=i) (j:=j) hlt2 hlt
     rw[← HN.out] at hcr
     have hpe:(i:Int)*(C:Int)=((i*C:Nat):Int):=(Int.natCast_mul _ _).symm
     have HCS:=Lib.hid (colL_succ C cs j i)
     obtain ⟨b1,off1,rfl,hbl1,hc1⟩:=(HI2.out.mono hbi).2 (i*C+j) hcr
     generalize cs[i*C+j]?.getD 0=X at hc1 HCS
     generalize i*C=p at hcr hpe hc1
     have hpj:(p:Int)+(j:Int)<(n:Int):=by omega
     clear hbi
     go_wp2_with (first|(at_builtin;refine wpList_append_ext _ rfl _ _ 22 rfl _ 3 i0 (.int .i64 0) 8 Tryz.underlying22 hi hz0 hz1 hz2 rfl (.slice aL (colL C cs j i).length cL) (colL C cs j i).length _ rfl (hoC.out.alloc _) (by rw[World.size_alloc];omega) ⟨wr.heap.size,0,none⟩ 1 1 [.int .i64 X] rfl rfl (cell_one_new _ _ _) (by simp[Value.oneCell']) (by have:=HCLN.out;unfold maxLen;omega) (by have:=HCLN.out;omega) ?_;intro v7 w7 hown7 hst7 hx7;obtain ⟨a7,c7,rfl⟩:=owns_shape hown7)|fail)
     go_roundw
     case rel =>
      refine ⟨i+1,a7,c7,by omega,by go_num,by rw[HCS.out,List.length_append,List.length_singleton],?_,hst7.below' (by rw[World.size_alloc];omega) (hb9.out.alloc hsz9 _) (fun k e=>(hoC.out.lt k e).1)⟩
      rw[HCS.out,List.length_append,List.length_singleton,List.map_append]
      exact hown7
     case measure=>simp[intOf];omega
    ·have e:i=R:=by omega
     subst e
     have hex2:=hex.out
     have HR9:=Lib.hid (hex2.rows.below hb9.out)
     have HLR:Hid ((leftR C i cs)[j]?.getD []=leftH (colL C cs j i) C):=leftR_atH hlt HNN.out
     have HSN:Hid (pre.map Prod.snd=(leftR C i cs).take j):=hex2.snd
     have HCI:=Lib.hid ((IC.of_owns hoC.out (by have:=HCLN.out;omega)).1)
     have hszI:=hbi.size
     generalize colL C cs j i=cl at hoC HLR HCI HCLN ⊢
     clear hex2 hbi
     go_wp2_with fail
     go_loopw [6,8] (fun s6 s8 wr9=>∃(x:Nat) (aM:Option Addr) (cM:Nat),x≤C∧s8 = .int .i64 (x:Int)∧s6 = .slice aM (leftH cl x).length cM∧Hid (wr9.ownsRow wr.heap.size 3 1 (.slice aM (leftH cl x).length cM) (leftH cl x).length ((leftH cl x).map (Value.int .i64)))∧Hid (Below wr.heap.size wr wr9)) (fun _ s8 _=>C - (intOf s8).toNat)
     case atStart=>exact ⟨0,none,0,by omega,rfl,rfl,World.ownsRow_nil _ _ _ _,Below.refl _ _⟩
     case round =>
      obtain ⟨x,aM,cM,hx1,rfl,rfl,hoL,hbL⟩:=hrel
      clear x0 x1 x2 xl
      obtain ⟨x0,x1,x2,xl⟩:=c3_of (keepq (keep_trans HBI.out hbL.out) P0.out)
      by_cases hlt3:x<C
      ·have hxI:(x:Int)<(C:Int):=by omega
       have HLS:=Lib.hid (leftH_succ cl x)
       have hll:=leftH_len cl x
       have hszL:=hbL.out.size
       have HHA:=Lib.hid (rhas4_c aL cl.length cL cl (x:Int) wr (HCI.out.mono hbL.out))
       cases hbt:hasB cl (x:Int) with
       | true =>
        rw[hbt] at HHA
        rw[hbt,if_pos rfl] at HLS
        clear hbt
        go_wp2_with (first|(go_at_call 111;(with_reducible refine HHA.out.mono ?_);rintro _ w6 ⟨rfl,h6⟩;subst h6)|fail)
        go_roundw
        case rel=>exact ⟨x+1,aM,cM,by omega,by go_num,by rw[HLS.out],by rw[HLS.out];exact hoL,hbL⟩
        case measure=>simp[intOf];omega
       | false =>
        rw[hbt] at HHA
        rw[hbt,if_neg (by decide)] at HLS
        clear hbt
        go_wp2_with (first|(go_at_call 111;(with_reducible refine HHA.out.mono ?_);rintro _ w6 ⟨rfl,h6⟩;subst h6)|(at_builtin;refine wpList_append_ext _ rfl _ _ 22 rfl _ 3 i0 (.int .i64 0) 8 Tryz.underlying22 hi hz0 hz1 hz2 rfl (.slice aM (leftH cl x).length cM) (leftH cl x).length _ rfl (hoL.out.alloc _) (by rw[World.size_alloc];omega) ⟨wr.heap.size,0,none⟩ 1 1 [.int .i64 (x:Int)] rfl rfl (cell_one_new _ _ _) (by simp[Value.oneCell']) (by unfold maxLen;omega) (by omega) ?_;intro v7 w7 hown7 hst7 hx7;obtain ⟨a7,c7,rfl⟩:=owns_shape hown7)|fail)
        go_roundw
        case rel =>
         refine ⟨x+1,a7,c7,by omega,by go_num,by rw[HLS.out,List.length_append,List.length_singleton],?_,hst7.below' (by rw[World.size_alloc];omega) (hbL.out.alloc hszL _) (fun k e=>(hoL.out.lt k e).1)⟩
         rw[HLS.out,List.length_append,List.length_singleton,List.map_append]
         exact hown7
        case measure=>simp[intOf];omega
      ·have e:x=C:=by omega
       subst e
       clear hlt3 hx1
       have hszL:=hbL.out.size
       have HRL:=Lib.hid (HR9.out.below hbL.out)
       have hpl16:pre.length≤16:=by have:=HPL.out;omega
       have hv:=Lib.hid (fun k e=>(HR9.out.1.lt k e).2)
       have hxI:¬(x:Int)<(x:Int):=by omega
       go_wp2_with (first|(at_builtin;refine wpList_append_ext _ rfl _ _ 40 rfl _ 22 i2 (.slice none 0 0) 24 Tryz.underlying40 hi2 hy0 hy1 hy2 rfl (.slice aS pre.length cS) pre.length _ rfl (HRL.out.1.alloc _) (by rw[World.size_alloc];omega) ⟨wr.heap.size,0,none⟩ 1 1 [.slice aM (leftH cl x).length cM] rfl rfl (cell_one_new _ _ _) (by simp[Value.oneCell']) (by unfold maxLen;omega) (by omega) ?_;intro v7 w7 hown7 hst7 hx7;obtain ⟨a7,c7,rfl⟩:=owns_shape hown7)|fail)
       go_roundw
       case rel =>
        refine ⟨j+1,pre++[(.slice aM (leftH cl x).length cM,leftH cl x)],a7,c7,by omega,by go_num,by rw[List.length_append];rfl,by rw[List.length_append,List.length_singleton,HPL.out],?_⟩
        have hr:=rows_push HRL.out hoL.out hszI hv.out (by exact hown7) hst7 hx7.blk
        refine ⟨by rw[List.length_append];exact hr,?_,hst7.below' (by rw[World.size_alloc];omega) (((keep_trans HBI.out hbL.out)).alloc (by omega) _) (fun k e=>(HR9.out.1.lt k e).1)⟩
        rw[List.map_append,HSN.out,List.map_singleton,List.take_add_one,← HLR.out,List.getElem?_eq_getElem (by rw[leftR_len];exact hlt)]
        rfl
       case measure=>simp[intOf];omega
  ·have e:j=C:=by omega
   subst e
   have hjI:¬(j:Int)<(j:Int):=by omega
   have hsnd:pre.map Prod.snd=leftR j R cs:=by rw[hex.out.snd,List.take_of_length_le (by rw[leftR_len];exact Nat.le_refl _)]
   obtain ⟨a9,c9,hve,hrc,hk9⟩:=hex.out.rows.rc (by omega) (fun x hx=>by have:=(HLB.out.each x.2 (by rw[← hsnd];exact List.mem_map_of_mem hx)).1;omega)
   rw[Value.slice.injEq] at hve
   obtain ⟨rfl,_,rfl⟩:=hve
   rw[hsnd] at hrc
   have hl2:pre.length=(leftR j R cs).length:=by rw[leftR_len];omega
   rw[hl2] at hrc ⊢
   have HRC2:=Lib.hid hrc
   have HB9:=Lib.hid (keep_trans HB2.out HBW.out)
   clear hrc hsnd hk9 hpl hlt hj hl2
   go_wp2_with fail
   refine bodyPost_ret (v := .slice aS (leftR j R cs).length cS) ?_ rfl ⟨aS,cS,rfl,HRC2.out,HB9.out⟩
   simp[results,Tryz.f119,go_sem]
end
section
open Go Go.RowKit
attribute [local go_sem] over_cell
attribute [local go_sem] Oper.semAt_some
theorem rpr_any {w:World} {R:Option (List Int)} {e:Ending} {w':World} (h:RprE w R e w'):∃a c b,e = .returned (.tuple #[.slice a (R.getD []).length c,.bool b])∧IC w' a (R.getD []).length (R.getD [])∧Below w.heap.size w w':=by
 cases R with
 | none=>exact ⟨none,0,false,h.1,⟨⟨rfl,by simp⟩,fun k hk=>absurd hk (by simp)⟩,h.2⟩
 | some l =>
  obtain ⟨a,c,h1,h2,h3⟩:=h
  exact ⟨a,c,true,h1,h2,h3⟩
def GridI (w:World) (R C:Int) (xs:List Int) (e:Ending) (w':World):Prop:=∃a c,e = .returned (.agg #[.int .i64 R,.int .i64 C,.slice a xs.length c])∧(∀b o,a=some ⟨b,o,none⟩→w.heap.size≤b)∧IC w' a xs.length xs∧Below w.heap.size w w'
theorem rExtend_c (R C:Nat) (a:Option Addr) (n c:Nat) (cs:List Int) (w:World) (h:IC w a n cs) (hC1:1≤C) (hC2:C≤16) (hRC:R≤C) (hn:n=R*C) (h0:∀k:Nat,0≤cs[k]?.getD 0) :
  Calls Tryz.prog 41 #[.agg #[.int .i64 (R:Int),.int .i64 (C:Int),.slice a n c]] w (GridI w ((R:Int)+1) (C:Int) (cs++(rpO (leftR C R cs)).getD [])):=by
 have hnn:n≤256:=by rw[hn];exact Nat.mul_le_mul (show R≤16 by omega) hC2
 have HLF:=Lib.hid (fun W (hb:Below w.heap.size w W)=>rleft_c R C a n c cs W (h.mono hb) hC1 hC2 hRC hn h0)
 have HLL:Hid ((leftR C R cs).length≤16):=by unfold Hid;rw[leftR_len];exact hC2
 have hol:((rpO (leftR C R cs)).getD []).length≤16:=Nat.le_trans (rpO_len _) HLL.out
 have HRP:=Lib.hid (fun (a2:Option Addr) (c2:Nat) W (hr:RC W a2 (leftR C R cs).length (leftR C R cs))=>rRepresent_c a2 _ c2 _ W hr (by have:=HLL.out;omega))
 rw[show repR (leftR C R cs) (leftR C R cs).length []=rpO (leftR C R cs) from (rpO_eq _).symm] at HRP
 have HLM:Hid ((cs.map (Value.int .i64)).length=n):=by unfold Hid;rw[List.length_map];exact h.len
 have HCL:Hid (cs.length=n):=h.len
 have HI:=Lib.hid h
 generalize leftR C R cs=sets at *
 obtain ⟨O,hO⟩:∃O,O=(rpO sets).getD []:=⟨_,rfl⟩
 rw[← hO] at hol ⊢
 have HOO:=Lib.hid hO
 clear hO
 clear h hn h0
 obtain ⟨i0,hi0,hz0,hz1,hz2⟩:=info_parts infoInt
 go_enter Tryz.func41,Tryz.ntmps41
 go_upto_region 1 with fail
 have fsz:((w.alloc (.cells #[.int .i64 (R:Int),.int .i64 (C:Int),.slice a n c] 24)).alloc (.cells #[.int .i64 0,.int .i64 0,.slice none 0 0] 24)).heap.size=w.heap.size+2:=by simp only[World.size_alloc] <;> omega
 have fB:Below w.heap.size w ((w.alloc (.cells #[.int .i64 (R:Int),.int .i64 (C:Int),.slice a n c] 24)).alloc (.cells #[.int .i64 0,.int .i64 0,.slice none 0 0] 24)):=((Below.refl _ _).alloc (Nat.le_refl _) _).alloc (by simp only[World.size_alloc];omega) _
 have fq0:((w.alloc (.cells #[.int .i64 (R:Int),.int .i64 (C:Int),.slice a n c] 24)).alloc (.cells #[.int .i64 0,.int .i64 0,.slice none 0 0] 24)).heap[w.heap.size]?=some (.cells #[.int .i64 (R:Int),.int .i64 (C:Int),.slice a n c] 24 (0,0)):=by have h:=World.alloc_heap_new w (.cells #[.int .i64 (R:Int),.int .i64 (C:Int),.slice a n c] 24);exact (Below.heap_alloc _ _ _ (by simp only[World.size_alloc];omega)).trans (h)
 have fq1:((w.alloc (.cells #[.int .i64 (R:Int),.int .i64 (C:Int),.slice a n c] 24)).alloc (.cells #[.int .i64 0,.int .i64 0,.slice none 0 0] 24)).heap[w.heap.size+1]?=some (.cells #[.int .i64 0,.int .i64 0,.slice none 0 0] 24 (0,0)):=by have h:=World.alloc_heap_new (w.alloc (.cells #[.int .i64 (R:Int),.int .i64 (C:Int),.slice a n c] 24)) (.cells #[.int .i64 0,.int .i64 0,.slice none 0 0] 24);simp only[World.size_alloc] at h;exact h
 generalize ((w.alloc (.cells #[.int .i64 (R:Int),.int .i64 (C:Int),.slice a n c] 24)).alloc (.cells #[.int .i64 0,.int .i64 0,.slice none 0 0] 24))=W0 at fsz fB fq0 fq1 ⊢
 have Q0:=Lib.hid fq0
 have Q1:=Lib.hid fq1
 have FB:=Lib.hid fB
 have hs0:w.heap.size+2=W0.heap.size:=fsz.symm
 obtain ⟨x0,x1,x2,xl⟩:=c3_of fq0
 clear fq0 fq1 fsz fB
 go_upto_region 2 with (first|(go_at_call 119;(with_reducible refine (HLF.out _ FB.out).mono ?_);rintro _ w4 ⟨a4,c4,rfl,hr4,hb4⟩)|(go_at_call 37;(with_reducible refine (HRP.out _ _ _ hr4).mono ?_);rintro _ w5 hh5;have hh6:=rpr_any hh5;obtain ⟨aO,cO,bO,rfl,hiO,hb5⟩:=hh6)|fail)
 rw[← HOO.out] at hiO ⊢
 have hB5:=keep_trans hb4 hb5
 have HB5:=Lib.hid hB5
 have P0:=Lib.hid (keepq hB5 Q0.out)
 have P1:=Lib.hid (keepq hB5 Q1.out)
 have HSRC:=Lib.hid ((HI.out.mono (keep_trans FB.out hB5)).src)
 have HSRO:=Lib.hid hiO.src
 have HOL:Hid ((O.map (Value.int .i64)).length=O.length):=by unfold Hid;rw[List.length_map]
 have hs5:w.heap.size+2≤w5.heap.size:=by have:=hB5.size;omega
 clear hb4 hb5 hr4 hh5 hiO hB5 x0 x1 x2 xl
 obtain ⟨x0,x1,x2,xl⟩:=c3_of P0.out
 have hR1:(R:Int)≤16:=by omega
 refine wp_region_S (fun w'=>∃u,w'=over (w5) u) [12] [(0,0),(0,1),(0,2),(0,3),(0,4),(0,6),(0,7),(0,9),(1,5),(1,8),(1,10),(0,11),(2,12)] (by kernel_rfl) (by kernel_rfl) (by exact ⟨_,below_over (by repeat (first|assumption|exact Below.refl _ _|refine keep_drew ?_|refine keep_alloc ?_ _|refine keep_trans ?_ (by assumption)))⟩) ?_
 dsimp only[pickOps,nthOp]
 repeat (first|(refine wpS_skip rfl (fun K hK=>?_);go_big_quiet_op;refine hK _ ?_;clear hK K)|(refine wpS_quiet rfl rfl (fun K hK=>?_);go_big_quiet_op;refine hK _ ?_;clear hK K)|(refine wpS_loud ?_;go_wp2_with (first|(at_builtin;refine wpList_append_any _ rfl _ _ 22 rfl w5.heap.size 3 i0 (.int .i64 0) 8 Tryz.underlying22 hi0 hz0 hz1 hz2 rfl _ 0 [] rfl (owns_drew (own_emp w5 w5.heap.size 3 (Nat.le_refl _))) (by first|exact Nat.le_refl _|exact Nat.le_succ _|(simp;done)|(simp;omega)) a n c (cs.map (Value.int .i64)) rfl HLM.out (src_below HSRC.out ((Below.refl w5.heap.size w5).alloc (Nat.le_refl _) (.cells #[] 3)).drew) (ints_one _) (by unfold maxLen;omega) (by omega) ?_;intro v6 w6 hown6 hst6 hk6;rw[Nat.zero_add,List.nil_append] at hown6;have hB6:Below w5.heap.size w5 w6:=((Below.refl w5.heap.size w5).alloc (Nat.le_refl _) (.cells #[] 3)).drew.trans (hst6.below (by first|exact Nat.le_refl _|exact Nat.le_succ _|(simp;done)|(simp;omega)) (fun q e=>by injection e with e;all_goals (first|omega|(simp at e;done)|(simp at e;omega)))))|(at_builtin;refine wpList_append_any _ rfl _ _ 22 rfl w5.heap.size 3 i0 (.int .i64 0) 8 Tryz.underlying22 hi0 hz0 hz1 hz2 rfl v6 n (cs.map (Value.int .i64)) rfl hown6 hB6.size aO O.length cO (O.map (Value.int .i64)) rfl HOL.out (src_below HSRO.out hB6) (ints_one _) (by unfold maxLen;omega) (by omega) ?_;intro v7 w7 hown7 hst7 hk7;have hB7:Below w5.heap.size w5 w7:=hB6.trans (hst7.below hB6.size (fun q e=>(hown6.lt q e).1));obtain ⟨a7,c7,rfl⟩:=owns_shape hown7;have g1:=keepq hB7 P1.out;obtain ⟨y0,y1,y2,yl⟩:=c3_of g1;obtain ⟨yf0,yf1,yf2⟩:=f3_of g1)|fail);refine ⟨?_,?_⟩;focus (exact ⟨_,below_over (by repeat (first|assumption|exact Below.refl _ _|refine keep_drew ?_|refine keep_alloc ?_ _|refine keep_trans ?_ (by assumption)))⟩)))
 refine wpS_late _ _ _ rfl ?_
 dsimp only[List.map]
 go_wp2_with (first|(at_builtin;refine wpList_append_any _ rfl _ _ 22 rfl w5.heap.size 3 i0 (.int .i64 0) 8 Tryz.underlying22 hi0 hz0 hz1 hz2 rfl _ 0 [] rfl (owns_drew (own_emp w5 w5.heap.size 3 (Nat.le_refl _))) (by first|exact Nat.le_refl _|exact Nat.le_succ _|(simp;done)|(simp;omega)) a n c (cs.map (Value.int .i64)) rfl HLM.out (src_below HSRC.out ((Below.refl w5.heap.size w5).alloc (Nat.le_refl _) (.cells #[] 3)).drew) (ints_one _) (by unfold maxLen;omega) (by omega) ?_;intro v6 w6 hown6 hst6 hk6;rw[Nat.zero_add,List.nil_append] at hown6;have hB6:Below w5.heap.size w5 w6:=((Below.refl w5.heap.size w5).alloc (Nat.le_refl _) (.cells #[] 3)).drew.trans (hst6.below (by first|exact Nat.le_refl _|exact Nat.le_succ _|(simp;done)|(simp;omega)) (fun q e=>by injection e with e;all_goals (first|omega|(simp at e;done)|(simp at e;omega)))))|(at_builtin;refine wpList_append_any _ rfl _ _ 22 rfl w5.heap.size 3 i0 (.int .i64 0) 8 Tryz.underlying22 hi0 hz0 hz1 hz2 rfl v6 n (cs.map (Value.int .i64)) rfl hown6 hB6.size aO O.length cO (O.map (Value.int .i64)) rfl HOL.out (src_below HSRO.out hB6) (ints_one _) (by unfold maxLen;omega) (by omega) ?_;intro v7 w7 hown7 hst7 hk7;have hB7:Below w5.heap.size w5 w7:=hB6.trans (hst7.below hB6.size (fun q e=>(hown6.lt q e).1));obtain ⟨a7,c7,rfl⟩:=owns_shape hown7;have g1:=keepq hB7 P1.out;obtain ⟨y0,y1,y2,yl⟩:=c3_of g1;obtain ⟨yf0,yf1,yf2⟩:=f3_of g1)|fail)
 refine NoPanic.normal ?_
 go_wp2_with fail
 have hne:(Value.slice a7 (n+O.length) c7).ownBlock≠some (w.heap.size+1):=fun e=>absurd (hown7.lt _ e).1 (by omega)
 have g3:=st3_q (x0 := .int .i64 ((R:Int)+1)) (x1 := .int .i64 (C:Int)) (x2 := .slice a7 (n+O.length) c7) g1
 have hown3:=st3_own (x0 := .int .i64 ((R:Int)+1)) (x1 := .int .i64 (C:Int)) (x2 := .slice a7 (n+O.length) c7) hown7 hne
 have hb3:=st3_below (x0 := .int .i64 ((R:Int)+1)) (x1 := .int .i64 (C:Int)) (x2 := .slice a7 (n+O.length) c7) (b:=w.heap.size+1) (keep_trans (keep_trans FB.out HB5.out) hB7) (by omega)
 obtain ⟨z0,z1,z2,zl⟩:=c3_of g3
 have hfin:(cs++O).length=n+O.length:=by rw[List.length_append,HCL.out]
 refine bodyPost_ret (v := .agg #[.int .i64 ((R:Int)+1),.int .i64 (C:Int),.slice a7 (n+O.length) c7]) ?_ rfl ⟨a7,c7,by rw[hfin],fun b o e=>by have:=(hown3.lt b (by rw[e];rfl)).1;omega,by rw[hfin];exact (IC.of_owns (by rw[hfin,List.map_append];exact hown3) (by rw[hfin];omega)).1,hb3⟩
 simp[results,Tryz.f41,go_sem,z0,z1,z2]
end
end Go.Proofs.YtmfpdakaeagdpaaGreat
