/- Texts J75 to J77 of this proof, in one file. -/
import Derived.Test.YtmfpdakaeagdpaaGreatW01
import Derived.Test.YtmfpdakaeagdpaaGreatW02
import Derived.Test.YtmfpdakaeagdpaaGreatW03
import Derived.Test.YtmfpdakaeagdpaaGreatW04
import Derived.Test.YtmfpdakaeagdpaaGreatW05
import Derived.Test.YtmfpdakaeagdpaaGreatW06
import Derived.Test.YtmfpdakaeagdpaaGreatW07
import Derived.Test.YtmfpdakaeagdpaaGreatW08
import Derived.Test.YtmfpdakaeagdpaaGreatW09
import Derived.Test.YtmfpdakaeagdpaaGreatW10
import Derived.Test.YtmfpdakaeagdpaaGreatW11
import Derived.Test.YtmfpdakaeagdpaaGreatW13
import Derived.Test.YtmfpdakaeagdpaaGreatW16
import Derived.Test.YtmfpdakaeagdpaaGreatW17
import Derived.Test.YtmfpdakaeagdpaaGreatW18
import Derived.Below
import Derived.BigFrame
import Derived.BigQuiet
import Derived.Deep.CutBlock
import Derived.Deep.CutRange
import Derived.Deep.LoopGhost
import Derived.Deep.Quiet
import Derived.Deep.RegionHeld3
import Derived.DeepKeys4
import Derived.KernelRfl
import Derived.Laws.BitsAllLaws
import Derived.Laws.EntriesVeiled
import Derived.Lib.AppendZeros
import Derived.Lib.Hide
import Derived.Lib.SlKeysI
import Derived.Lib.SliceRun
import Derived.LoopIn
import Derived.LoopNIn
import Derived.Maps.AppendAt
import Derived.Maps.OwnIn
import Derived.Maps.OwnSet
import Derived.OneCell
import Derived.OrdersHeld
import Derived.OrdersIn
import Derived.OwnWalkIn
import Derived.RangeFuncBound
import Derived.RangeFuncBox
import Derived.RangeFuncCalls
import Derived.RangeFuncLeaves
import Derived.RangeFuncNested
import Derived.RangeFuncWrites
import Derived.Shelf.Abstract
import Derived.Shelf.SortM.Plain
import Derived.Still
import Derived.TacticsIn
import Derived.TacticsInMore
import Derived.Test.YtmfpdakaeagdpaaGreatProg
import Derived.WalkKit
import Derived.WalkLawsBesides
import Derived.WalkSpells
import Derived.WideKeyPair
namespace Go.Proofs.YtmfpdakaeagdpaaGreat
set_option maxRecDepth 100000
set_option maxHeartbeats 16000000
section
open Go Go.RowKit
attribute [local go_sem] over_cell
attribute [local go_sem] Oper.semAt_some
theorem rows_push {W w7:World} {L B:Nat} {v v7 xv:Value} {pre:List (Value × List Int)} {xl:List Int} {o:Obj} (h:RowsI W noB L v pre) (hx:W.ownsRow B 3 1 xv xl.length (xl.map (Value.int .i64))) (hL:L≤B) (hv:∀k,v.ownBlock=some k→k<B)
  (h7:w7.ownsRow L 22 1 v7 (pre.length+1) (pre.map Prod.fst++[xv])) (hs7:Stays (fun k=>v.ownBlock=some k) (W.alloc o) w7) (hk:∀k,v7.ownBlock=some k→v.ownBlock=some k∨(W.alloc o).heap.size≤k):RowsI w7 noB L v7 (pre++[(xv,xl)]):=by
 have hb:Below W.heap.size W (W.alloc o):=(Below.refl _ _).alloc (Nat.le_refl _) _
 have hx2:=owns_keep hx (fun k _ hl=>hb.block k hl)
 exact RowsI.append (x:=(xv,xl)) (h.below hb) (fun k e=>e.elim) (owns_base hx2 hL) (fun k e=>⟨id,fun e2=>by have:=hv k e2;have:=(hx.lt k e).1;omega⟩) hs7 h7 hk
theorem sym_num {C:Nat} {cs:List Int} (hC:1≤C) (h:symE 0 C cs=0):∀k:Nat,0≤cs[k]?.getD 0∧cs[k]?.getD 0<(C:Int):=by
 intro k
 unfold symE at h
 split at h
 ·exact absurd h (by decide)
 ·rename_i hb
  rcases Nat.lt_or_ge k cs.length with e|e
  ·rw[Bool.not_eq_true,List.any_eq_false] at hb
   have:=hb _ (List.getElem_mem e)
   rw[List.getElem?_eq_getElem e,Option.getD_some]
   simp only[Bool.or_eq_true,decide_eq_true_eq] at this
   omega
  ·rw[List.getElem?_eq_none e];simp;omega
structure ExI (W2:World) (C R:Nat) (cs:List Int) (v:Value) (pre:List (Value × List Int)) (j:Nat) (W:World):Prop where
 rows:RowsI W noB W2.heap.size v pre
 snd:pre.map Prod.snd=(leftR C R cs).take j
 base:Below W2.heap.size W2 W
theorem repP_len {sets:List (List Int)}:∀(f:Nat) (out:List Int) (left:List (List Int)) (l:List Int),repP sets f out left=some l→l.length=out.length+f
 | 0,out,left,l,h=>by unfold repP at h;rw[← Option.some.inj h];rfl
 | f+1,out,left,l,h=>by
  unfold repP at h
  split at h
  ·exact absurd h (by simp)
  ·have:=repP_len f _ _ _ h
   rw[List.length_append,List.length_singleton] at this
   omega
theorem rpO_len (sets:List (List Int)):((rpO sets).getD []).length≤sets.length:=by
 unfold rpO
 cases h:repP sets sets.length [] sets with
 | none=>simp
 | some l=>have:=repP_len _ _ _ _ h;rw[Option.getD_some,this];simp
theorem rep_any {w w':World} {R:Option (List Int)} {e:Ending} (h:RepE w R e w'):∃a c b,e = .returned (.tuple #[.slice a (R.getD []).length c,.bool b])∧w'.ownsRow w.heap.size 3 1 (.slice a (R.getD []).length c) (R.getD []).length ((R.getD []).map (Value.int .i64))∧Below w.heap.size w w':=by
 cases R with
 | none=>exact ⟨none,0,false,h.1,World.ownsRow_nil _ _ _ _,h.2⟩
 | some l =>
  obtain ⟨a,c,h1,h2,h3⟩:=h
  exact ⟨a,c,true,h1,h2,h3⟩
theorem extend_ok (R C:Nat) (a:Option Addr) (n c:Nat) (cs:List Int) (w:World) (h:IC w a n cs) (hcap:n≤c) (hC1:1≤C) (hC2:C≤16) (hRC:R≤C) (hn:n=R*C) (er:Int) (hE:firstL [symE 0 C cs,whenV ((R:Int)==(C:Int)) 7]=er) :
  Calls Tryz.prog 40 #[.agg #[.int .i64 (R:Int),.int .i64 (C:Int),.slice a n c]] w (GridE w (if er=0 then (R:Int)+1 else 0) (if er=0 then (C:Int) else 0) (if er=0 then cs++(rpO (leftR C R cs)).getD [] else []) er):=by
 have HI:Hid ((decide (1≤(C:Int))&&decide ((C:Int)≤16))=true):=by unfold Hid;rw[decide_eq_true (show (1:Int)≤(C:Int) by omega),decide_eq_true (show (C:Int)≤16 by omega)];rfl
 have hd1:decide ((R:Int)<0)=false:=decide_eq_false (by omega)
 have hd2:decide ((C:Int)<(R:Int))=false:=decide_eq_false (by omega)
 have hq:R*C≤C*16:=by rw[Nat.mul_comm];exact Nat.mul_le_mul_left _ (by omega)
 have hn256:n≤256:=by omega
 have hmul:(R:Int)*(C:Int)=(n:Int):=by rw[hn,Int.natCast_mul]
 have hd4:((n:Int) != (n:Int))=false:=by simp
 have HCC:=Lib.hid (fun W (hb:Below w.heap.size w W)=>chk_c (R:Int) C a n c cs 0 W (h.mono hb) hC1 hC2 (by decide) (by omega))
 have HF:=Lib.hid hE
 have HN:=Lib.hid hn
 have HSU:=Lib.hid (ic_sure h)
 have hlen:=Lib.hid h.len
 by_cases h0:er=0
 ·have hs:symE 0 C cs=0:=by rw[h0] at hE;exact (firstL_cons0 hE).1
  have HNU:=Lib.hid (sym_num hC1 hs)
  have HLB:=Lib.hid (leftR_B (C:=C) (R:=R) (cs:=cs) hC2)
  rw[if_pos h0,if_pos h0,if_pos h0]
  obtain ⟨O,hO⟩:∃O,O=(rpO (leftR C R cs)).getD []:=⟨_,rfl⟩
  rw[← hO]
  have HOO:=Lib.hid hO
  subst h0
  clear hE hn hq h hs hO
  go_enter Tryz.func40,Tryz.ntmps40
  go_upto_region 1 with fail
  have fsz:((w.alloc (.cells #[.int .i64 (R:Int),.int .i64 (C:Int),.slice a n c] 24)).alloc (.cells #[.int .i64 0,.int .i64 0,.slice none 0 0] 24)).heap.size=w.heap.size+2:=by simp only[World.size_alloc] <;> omega
  have fB:Below w.heap.size w ((w.alloc (.cells #[.int .i64 (R:Int),.int .i64 (C:Int),.slice a n c] 24)).alloc (.cells #[.int .i64 0,.int .i64 0,.slice none 0 0] 24)):=((Below.refl _ _).alloc (Nat.le_refl _) _).alloc (by simp only[World.size_alloc];omega) _
  have fq0:((w.alloc (.cells #[.int .i64 (R:Int),.int .i64 (C:Int),.slice a n c] 24)).alloc (.cells #[.int .i64 0,.int .i64 0,.slice none 0 0] 24)).heap[w.heap.size]?=some (.cells #[.int .i64 (R:Int),.int .i64 (C:Int),.slice a n c] 24 (0,0)):=by have h:=World.alloc_heap_new w (.cells #[.int .i64 (R:Int),.int .i64 (C:Int),.slice a n c] 24);exact (Below.heap_alloc _ _ _ (by simp only[World.size_alloc];omega)).trans (h)
  have fq1:((w.alloc (.cells #[.int .i64 (R:Int),.int .i64 (C:Int),.slice a n c] 24)).alloc (.cells #[.int .i64 0,.int .i64 0,.slice none 0 0] 24)).heap[w.heap.size+1]?=some (.cells #[.int .i64 0,.int .i64 0,.slice none 0 0] 24 (0,0)):=by have h:=World.alloc_heap_new (w.alloc (.cells #[.int .i64 (R:Int),.int .i64 (C:Int),.slice a n c] 24)) (.cells #[.int .i64 0,.int .i64 0,.slice none 0 0] 24);simp only[World.size_alloc] at h;exact h
  generalize ((w.alloc (.cells #[.int .i64 (R:Int),.int .i64 (C:Int),.slice a n c] 24)).alloc (.cells #[.int .i64 0,.int .i64 0,.slice none 0 0] 24))=W0 at fsz fB fq0 fq1 ⊢
  obtain ⟨x0,x1,x2,xl⟩:=c3_of fq0
  have FB:=Lib.hid fB
  have Q0:=Lib.hid fq0
  have Q1:=Lib.hid fq1
  clear fsz fq0 fq1
  go_upto_region 3 with (first|(go_at_call 113;refine (isOrder_c _ _).mono ?_;rw[HI.out];rintro _ w1 ⟨rfl,rfl⟩)|fail)
  refine wp_region_S (fun w'=>∃u,w'=over (W0) u) [12,11,10,9] [(0,0),(0,1),(0,2),(0,4),(0,5),(0,6),(0,7),(0,8),(1,3),(2,9),(2,10),(2,11),(2,12)] (by kernel_rfl) (by kernel_rfl) (by exact ⟨_,below_over (by repeat (first|assumption|exact Below.refl _ _|refine keep_drew ?_|refine keep_alloc ?_ _|refine keep_trans ?_ (by assumption)))⟩) ?_
  dsimp only[pickOps,nthOp]
  repeat (first|(refine wpS_skip rfl (fun K hK=>?_);go_big_quiet_op;refine hK _ ?_;clear hK K)|(refine wpS_quiet rfl rfl (fun K hK=>?_);go_big_quiet_op;refine hK _ ?_;clear hK K)|(refine wpS_loud ?_;go_wp2_with (first|(go_at_call 114;refine (HCC.out _ (by (repeat (first|assumption|exact Below.refl _ _|refine keep_drew ?_|refine keep_alloc ?_ _|refine keep_trans ?_ (by assumption))))).mono ?_;rintro _ w1 ⟨rfl,hb1'⟩;have hb1:Below W0.heap.size W0 w1:=(by (repeat (first|assumption|exact Below.refl _ _|refine keep_drew ?_|refine keep_alloc ?_ _|refine keep_trans ?_ (by assumption)))))|(go_at_call 93;refine (twhen_c _ _ _).mono ?_;rintro _ w2 ⟨rfl,rfl⟩)|(go_at_call 92;refine (tfirst_c _ _ _ _ _ (IC.new2 _ _ _ _)).mono ?_;rw[HF.out];rintro _ w3 ⟨rfl,rfl⟩));refine ⟨?_,?_⟩;focus (exact ⟨_,below_over (by repeat (first|assumption|exact Below.refl _ _|refine keep_drew ?_|refine keep_alloc ?_ _|refine keep_trans ?_ (by assumption)))⟩)))
  refine wpS_late _ _ _ rfl ?_
  dsimp only[List.map]
  go_wp2_with (first|(go_at_call 114;refine (HCC.out _ (by (repeat (first|assumption|exact Below.refl _ _|refine keep_drew ?_|refine keep_alloc ?_ _|refine keep_trans ?_ (by assumption))))).mono ?_;rintro _ w1 ⟨rfl,hb1'⟩;have hb1:Below W0.heap.size W0 w1:=(by (repeat (first|assumption|exact Below.refl _ _|refine keep_drew ?_|refine keep_alloc ?_ _|refine keep_trans ?_ (by assumption)))))|(go_at_call 93;refine (twhen_c _ _ _).mono ?_;rintro _ w2 ⟨rfl,rfl⟩)|(go_at_call 92;refine (tfirst_c _ _ _ _ _ (IC.new2 _ _ _ _)).mono ?_;rw[HF.out];rintro _ w3 ⟨rfl,rfl⟩))
  refine NoPanic.normal ?_
  have hB2:Below W0.heap.size W0 (w1.alloc (.cells #[.int .i64 (symE 0 C cs),.int .i64 (whenV ((R:Int)==(C:Int)) 7)] 27)):=by (repeat (first|assumption|exact Below.refl _ _|refine keep_drew ?_|refine keep_alloc ?_ _|refine keep_trans ?_ (by assumption)))
  have HB2:=Lib.hid (keep_trans FB.out hB2)
  have P0:=Lib.hid (keepq hB2 Q0.out)
  have P1:=Lib.hid (keepq hB2 Q1.out)
  clear hB2 hb1 hb1' fB x0 x1 x2 xl
  generalize (w1.alloc (.cells #[.int .i64 (symE 0 C cs),.int .i64 (whenV ((R:Int)==(C:Int)) 7)] 27))=W2 at HB2 P0 P1 ⊢
  obtain ⟨x0,x1,x2,xl⟩:=c3_of P0.out
  go_wp2_with fail
  go_loopw [5,6,7,8,9,10,59] (fun s5 _ _ _ _ _ s59 wr=>∃(j:Nat) (pre:List (Value × List Int)) (aS:Option Addr) (cS:Nat),j≤C∧s59 = .int .i64 (j:Int)∧s5 = .slice aS pre.length cS∧pre.length=j∧Hid (ExI W2 C R cs (.slice aS pre.length cS) pre j wr)) (fun _ _ _ _ _ _ s59 _=>C - (intOf s59).toNat)
  case atStart=>exact ⟨0,[],none,0,by omega,rfl,rfl,rfl,⟨RowsI.nil _ _ _,by rw[List.take_zero];rfl,Below.refl _ _⟩⟩
  case round =>
   obtain ⟨j,pre,aS,cS,hj,rfl,rfl,hpl,hex⟩:=hrel
   clear x0 x1 x2 xl
   have HPL:=Lib.hid hpl
   by_cases hlt:j<C
   ·have hjI:(j:Int)<(C:Int):=by omega
    have hbw:=hex.out.base
    obtain ⟨x0,x1,x2,xl⟩:=c3_of (keepq hbw P0.out)
    have HBW:=Lib.hid hbw
    clear hbw hpl
    go_wp2_with fail
    go_loopw [7,8,64] (fun s7 _ s64 wr9=>∃i:Nat,i≤R∧s64 = .int .i64 (i:Int)∧s7 = .int .u32 (bitsOf (colL C cs j i):Int)∧Hid (Below wr.heap.size wr wr9)) (fun _ _ s64 _=>R - (intOf s64).toNat)
    case atStart=>exact ⟨0,by omega,rfl,rfl,Below.refl _ _⟩
    case round =>
     obtain ⟨i,hi1,rfl,rfl,hb9⟩:=hrel
     clear x0 x1 x2 xl
     have hbi:=keep_trans HBW.out hb9.out
     obtain ⟨x0,x1,x2,xl⟩:=c3_of (keepq hbi P0.out)
     by_cases hlt2:i<R
     ·have hiI:(i:Int)<(R:Int):=by omega
      have hcl:=cellR_lt (i:=i) (j:=j) hlt2 hlt
      have hbw2:=keep_trans HB2.out hbi
      have HAT:=Lib.hid (lat_c (R:Int) C i j a n c cs _ ((HSU.out.keep hbw2.size (fun k e=>hbw2.block k e)).here) (by omega) (by omega) hlt (by rw[HN.out];exact hcl))
      have hX:=HNU.out (i*C+j)
      have HCS:=Lib.hid (colL_succ C cs j i)
      have hmb:bitsOf (colL C cs j i)<4294967296:=by
       refine Nat.lt_of_lt_of_le (bitsOf_lt (n:=C) (fun y hy=>?_)) (Nat.le_trans (Nat.pow_le_pow_right (by decide) (show C≤32 by omega)) (by decide))
       unfold colL at hy
       obtain ⟨t,_,rfl⟩:=List.mem_map.1 hy
       exact HNU.out _
      obtain ⟨X,hXe⟩:∃X,X=cs[i*C+j]?.getD 0:=⟨_,rfl⟩
      rw[← hXe] at HAT hX HCS
      have HWI:=Lib.hid (fun W=>sywith_c (bitsOf (colL C cs j i)) X W hmb hX.1 (by omega))
      have HBS:Hid (bitsOf (colL C cs j (i+1))=bitsOf (colL C cs j i) ||| 1 <<< X.toNat):=by unfold Hid;rw[HCS.out,bitsOf_snoc]
      clear hcl hbw2 hXe hmb HCS
      rw[← HBS.out] at HWI
      generalize bitsOf (colL C cs j i)=m1 at HWI ⊢
      go_wp2_with (first|(go_at_call 116;refine HAT.out.mono ?_;rintro _ w5 ⟨rfl,hb5⟩)|(go_at_call 115;refine (HWI.out _).mono ?_;rintro _ w6 ⟨rfl,rfl⟩)|fail)
      go_roundw
      case rel=>exact ⟨i+1,by omega,by go_num,rfl,keep_trans hb9.out hb5⟩
      case measure=>simp[intOf];omega
     ·have e:i=R:=by omega
      subst e
      have hex2:=hex.out
      have hr9:=hex2.rows.below hb9.out
      have HR9:=Lib.hid hr9
      have hmb:bitsOf (colL C cs j i)<4294967296:=by
       refine Nat.lt_of_lt_of_le (bitsOf_lt (n:=C) (fun y hy=>?_)) (Nat.le_trans (Nat.pow_le_pow_right (by decide) (show C≤32 by omega)) (by decide))
       unfold colL at hy
       obtain ⟨t,_,rfl⟩:=List.mem_map.1 hy
       exact HNU.out _
      have HLR:Hid ((leftR C i cs)[j]?.getD []=leftI (bitsOf (colL C cs j i)) C):=leftR_at hlt (fun k=>(HNU.out k).1)
      have HSN:Hid (pre.map Prod.snd=(leftR C i cs).take j):=hex2.snd
      have HBI:=Lib.hid hbi
      have hszI:=hbi.size
      generalize bitsOf (colL C cs j i)=m1 at hmb HLR ⊢
      clear hex2 hr9 hbi
      obtain ⟨i0,hi,hz0,hz1,hz2⟩:=info_parts infoInt
      obtain ⟨i2,hi2,hy0,hy1,hy2⟩:=info_parts infoRow
      go_wp2_with fail
      go_loopw [9,10,76] (fun s9 _ s76 wr9=>∃(x:Nat) (aL:Option Addr) (cL:Nat),x≤C∧s76 = .int .i64 (x:Int)∧s9 = .slice aL (leftI m1 x).length cL∧Hid (wr9.ownsRow wr.heap.size 3 1 (.slice aL (leftI m1 x).length cL) (leftI m1 x).length ((leftI m1 x).map (Value.int .i64)))∧Hid (Below wr.heap.size wr wr9)) (fun _ _ s76 _=>C - (intOf s76).toNat)
      case atStart=>exact ⟨0,none,0,by omega,rfl,rfl,World.ownsRow_nil _ _ _ _,Below.refl _ _⟩
      case round =>
       obtain ⟨x,aL,cL,hx1,rfl,rfl,hoL,hbL⟩:=hrel
       clear x0 x1 x2 xl
       by_cases hlt3:x<C
       ·have hxI:(x:Int)<(C:Int):=by omega
        have HLS:=Lib.hid (leftI_succ m1 x)
        have hll:=leftI_len m1 x
        have hszL:=hbL.out.size
        have HHA:Hid (∀W,Calls Tryz.prog 117 #[.int .u32 (m1:Int),.int .i64 (x:Int)] W fun e w'=>e = .returned (.bool (m1.testBit x))∧W=w'):=fun W=>syhas_c m1 (x:Int) W hmb (by omega) (by omega)
        cases hbt:m1.testBit x with
        | true =>
         rw[hbt] at HHA
         rw[hbt,if_pos rfl] at HLS
         clear hbt
         go_wp2_with (first|(go_at_call 117;refine (HHA.out _).mono ?_;rintro _ w6 ⟨rfl,rfl⟩)|fail)
         go_roundw
         case rel=>exact ⟨x+1,aL,cL,by omega,by go_num,by rw[HLS.out],by rw[HLS.out];exact hoL,hbL⟩
         case measure=>simp[intOf];omega
        | false =>
         rw[hbt] at HHA
         rw[hbt,if_neg (by decide)] at HLS
         clear hbt
         go_wp2_with (first|(go_at_call 117;refine (HHA.out _).mono ?_;rintro _ w6 ⟨rfl,rfl⟩)|(at_builtin;refine wpList_append_ext _ rfl _ _ 22 rfl _ 3 i0 (.int .i64 0) 8 Tryz.underlying22 hi hz0 hz1 hz2 rfl (.slice aL (leftI m1 x).length cL) (leftI m1 x).length _ rfl (hoL.out.alloc _) (by rw[World.size_alloc];omega) ⟨wr.heap.size,0,none⟩ 1 1 [.int .i64 (x:Int)] rfl rfl (cell_one_new _ _ _) (by simp[Value.oneCell']) (by unfold maxLen;omega) (by omega) ?_;intro v7 w7 hown7 hst7 hx7;obtain ⟨a7,c7,rfl⟩:=owns_shape hown7)|fail)
         go_roundw
         case rel =>
          refine ⟨x+1,a7,c7,by omega,by go_num,by rw[HLS.out,List.length_append,List.length_singleton],?_,hst7.below' (by rw[World.size_alloc];omega) (hbL.out.alloc hszL _) (fun k e=>(hoL.out.lt k e).1)⟩
          rw[HLS.out,List.length_append,List.length_singleton,List.map_append]
          exact hown7
         case measure=>simp[intOf];omega
       ·have e:x=C:=by omega
        subst e
        clear hlt3 hx1
        have hszL:=hbL.out.size
        have hrL:=HR9.out.below hbL.out
        have HRL:=Lib.hid hrL
        have hpl16:pre.length≤16:=by have:=HPL.out;omega
        have hv:=Lib.hid (fun k e=>(HR9.out.1.lt k e).2)
        clear hrL
        go_wp2_with (first|(at_builtin;refine wpList_append_ext _ rfl _ _ 40 rfl _ 22 i2 (.slice none 0 0) 24 Tryz.underlying40 hi2 hy0 hy1 hy2 rfl (.slice aS pre.length cS) pre.length _ rfl (HRL.out.1.alloc _) (by rw[World.size_alloc];omega) ⟨wr.heap.size,0,none⟩ 1 1 [.slice aL (leftI m1 x).length cL] rfl rfl (cell_one_new _ _ _) (by simp[Value.oneCell']) (by unfold maxLen;omega) (by omega) ?_;intro v7 w7 hown7 hst7 hx7;obtain ⟨a7,c7,rfl⟩:=owns_shape hown7)|fail)
        go_roundw
        case rel =>
         refine ⟨j+1,pre++[(.slice aL (leftI m1 x).length cL,leftI m1 x)],a7,c7,by omega,by go_num,by rw[List.length_append];rfl,by rw[List.length_append,List.length_singleton,HPL.out],?_⟩
         have hr:=rows_push HRL.out hoL.out hszI hv.out (by exact hown7) hst7 hx7.blk
         refine ⟨by rw[List.length_append];exact hr,?_,hst7.below' (by rw[World.size_alloc];omega) (((keep_trans HBI.out hbL.out)).alloc (by omega) _) (fun k e=>(HR9.out.1.lt k e).1)⟩
         rw[List.map_append,HSN.out,List.map_singleton,List.take_add_one,← HLR.out,List.getElem?_eq_getElem (by rw[leftR_len];exact hlt)]
         rfl
        case measure=>simp[intOf];omega
   ·have e:j=C:=by omega
    subst e
    clear hlt hj hpl
    have hbw:=hex.out.base
    have hsnd:pre.map Prod.snd=leftR j R cs:=by rw[hex.out.snd,List.take_of_length_le (by rw[leftR_len];exact Nat.le_refl _)]
    obtain ⟨a9,c9,hve,hrc,hk9⟩:=hex.out.rows.rc (by have:=HPL.out;omega) (fun x hx=>by have:=(HLB.out.each x.2 (by rw[← hsnd];exact List.mem_map_of_mem hx)).1;omega)
    rw[Value.slice.injEq] at hve
    obtain ⟨rfl,_,rfl⟩:=hve
    rw[hsnd] at hrc
    have HREP:=Lib.hid (rep_c aS pre.length cS _ wr hrc HLB.out)
    have HBW:=Lib.hid (keep_trans HB2.out hbw)
    have HSB:=Lib.hid hbw
    have hszw:=hbw.size
    have Q1:=Lib.hid (keepq hbw P1.out)
    have Q0:=Lib.hid (keepq hbw P0.out)
    clear hrc hsnd hbw hk9
    go_wp2_with (first|(go_at_call 109;refine HREP.out.mono ?_;rintro _ w5 hh5;have hh6:=rep_any (R:=rpO (leftR j R cs)) hh5;rw[← HOO.out] at hh6;obtain ⟨aO,cO,bO,rfl,hoO,hb5⟩:=hh6)|fail)
    have hOl:O.length≤16:=by rw[HOO.out];exact Nat.le_trans (rpO_len _) (by rw[leftR_len];exact hC2)
    have hb5':=keep_trans HBW.out hb5
    have hlc:cs.length≤256:=by have:=hlen.out;omega
    have hio:=IC.of_owns hoO (by omega)
    have HIA:=Lib.hid ((HSU.out.keep hb5'.size (fun k e=>hb5'.block k e)).here)
    have HIB:=Lib.hid hio.1
    have hkO:=hio.2
    have hbA:Below w5.heap.size w5 (w5.alloc (.cells #[.slice a n c,.slice aO O.length cO] 22)):=keep_alloc (Below.refl _ _) _
    have HCT:Hid (∀W,Below (w5.alloc (.cells #[.slice a n c,.slice aO O.length cO] 22)).heap.size (w5.alloc (.cells #[.slice a n c,.slice aO O.length cO] 22)) W→Calls Tryz.prog 118 #[.slice (some ⟨w5.heap.size,0,none⟩) 2 2] W fun e w'=>∃a2 c2,e = .returned (.slice a2 (cs++O).length c2)∧w'.ownsRow w5.heap.size 3 1 (.slice a2 (cs++O).length c2) (cs++O).length ((cs++O).map (Value.int .i64))∧Below w5.heap.size w5 w'):=by
     intro W hb
     refine (iconcat_c _ _ _ _ _ ((rc_two HIA.out hcap HIB.out hkO).mono hb) (by decide) (by simp;omega)).mono ?_
     rintro e w' ⟨v,rfl,ho,hb'⟩
     rw[show [cs,O].flatten=cs++O by simp] at ho
     obtain ⟨a2,c2,rfl⟩:=owns_shape ho
     exact ⟨a2,c2,rfl,owns_base ho (by have:=hb.size;rw[World.size_alloc] at this;omega),keep_trans (keep_trans hbA hb) hb'⟩
    have Q2:=Lib.hid (keepq hb5 Q1.out)
    have HB5:=Lib.hid hb5'
    have hs5:=hb5.size
    obtain ⟨x0,x1,x2,xl⟩:=c3_of (keepq hb5 Q0.out)
    clear hb5' hio hlc hoO hb5 HREP hkO HIA HIB hbA
    refine wp_region_S (fun w'=>∃u,w'=over (w5) u) [12,11] [(0,0),(0,1),(0,2),(0,3),(0,4),(0,5),(0,6),(0,7),(1,8),(1,9),(0,10),(2,11),(2,12)] (by kernel_rfl) (by kernel_rfl) (by exact ⟨_,below_over (by repeat (first|assumption|exact Below.refl _ _|refine keep_drew ?_|refine keep_alloc ?_ _|refine keep_trans ?_ (by assumption)))⟩) ?_
    dsimp only[pickOps,nthOp]
    repeat (first|(refine wpS_skip rfl (fun K hK=>?_);go_big_quiet_op;refine hK _ ?_;clear hK K)|(refine wpS_quiet rfl rfl (fun K hK=>?_);go_big_quiet_op;refine hK _ ?_;clear hK K)|(refine wpS_loud ?_;go_wp2_with (first|(go_at_call 118;refine (HCT.out _ (by (repeat (first|assumption|exact Below.refl _ _|refine keep_drew ?_|refine keep_alloc ?_ _|refine keep_trans ?_ (by assumption))))).mono ?_;rintro _ w6 ⟨a2,c2,rfl,hown2,hb6⟩;have g1:=keepq hb6 Q2.out;obtain ⟨y0,y1,y2,yl⟩:=c3_of g1;obtain ⟨yf0,yf1,yf2⟩:=f3_of g1)|fail);refine ⟨?_,?_⟩;focus (exact ⟨_,below_over (by repeat (first|assumption|exact Below.refl _ _|refine keep_drew ?_|refine keep_alloc ?_ _|refine keep_trans ?_ (by assumption)))⟩)))
    refine wpS_late _ _ _ rfl ?_
    dsimp only[List.map]
    go_wp2_with (first|(go_at_call 118;refine (HCT.out _ (by (repeat (first|assumption|exact Below.refl _ _|refine keep_drew ?_|refine keep_alloc ?_ _|refine keep_trans ?_ (by assumption))))).mono ?_;rintro _ w6 ⟨a2,c2,rfl,hown2,hb6⟩;have g1:=keepq hb6 Q2.out;obtain ⟨y0,y1,y2,yl⟩:=c3_of g1;obtain ⟨yf0,yf1,yf2⟩:=f3_of g1)|fail)
    refine NoPanic.normal ?_
    go_wp2_with fail
    have hl2:=q_lt Q2.out
    have hne:(Value.slice a2 (cs++O).length c2).ownBlock≠some (w.heap.size+1):=fun e=>absurd (hown2.lt _ e).1 (by omega)
    have g3:=st3_q (x0 := .int .i64 ((R:Int)+1)) (x1 := .int .i64 (j:Int)) (x2 := .slice a2 (cs.length+O.length) c2) g1
    have hown3:=st3_own (x0 := .int .i64 ((R:Int)+1)) (x1 := .int .i64 (j:Int)) (x2 := .slice a2 (cs.length+O.length) c2) hown2 hne
    have hb3:=st3_below (x0 := .int .i64 ((R:Int)+1)) (x1 := .int .i64 (j:Int)) (x2 := .slice a2 (cs.length+O.length) c2) (b:=w.heap.size+1) (keep_trans HB5.out hb6) (by omega)
    have hs5w:=HB5.out.size
    obtain ⟨z0,z1,z2,zl⟩:=c3_of g3
    refine bodyPost_ret (v := .tuple #[.agg #[.int .i64 ((R:Int)+1),.int .i64 (j:Int),.slice a2 (cs.length+O.length) c2],.int .i64 0]) ?_ rfl ⟨a2,c2,by rw[List.length_append],owns_base hown3 hs5w,hb3⟩
    simp[results,Tryz.f40,go_sem,z0,z1,z2]
 ·have h0':(er != 0)=true:=by simpa using h0
  rw[if_neg h0,if_neg h0,if_neg h0]
  clear hE hn hq h h0
  go_enter Tryz.func40,Tryz.ntmps40
  go_upto_region 1 with fail
  have fsz:((w.alloc (.cells #[.int .i64 (R:Int),.int .i64 (C:Int),.slice a n c] 24)).alloc (.cells #[.int .i64 0,.int .i64 0,.slice none 0 0] 24)).heap.size=w.heap.size+2:=by simp only[World.size_alloc] <;> omega
  have fB:Below w.heap.size w ((w.alloc (.cells #[.int .i64 (R:Int),.int .i64 (C:Int),.slice a n c] 24)).alloc (.cells #[.int .i64 0,.int .i64 0,.slice none 0 0] 24)):=((Below.refl _ _).alloc (Nat.le_refl _) _).alloc (by simp only[World.size_alloc];omega) _
  have fq0:((w.alloc (.cells #[.int .i64 (R:Int),.int .i64 (C:Int),.slice a n c] 24)).alloc (.cells #[.int .i64 0,.int .i64 0,.slice none 0 0] 24)).heap[w.heap.size]?=some (.cells #[.int .i64 (R:Int),.int .i64 (C:Int),.slice a n c] 24 (0,0)):=by have h:=World.alloc_heap_new w (.cells #[.int .i64 (R:Int),.int .i64 (C:Int),.slice a n c] 24);exact (Below.heap_alloc _ _ _ (by simp only[World.size_alloc];omega)).trans (h)
  have fq1:((w.alloc (.cells #[.int .i64 (R:Int),.int .i64 (C:Int),.slice a n c] 24)).alloc (.cells #[.int .i64 0,.int .i64 0,.slice none 0 0] 24)).heap[w.heap.size+1]?=some (.cells #[.int .i64 0,.int .i64 0,.slice none 0 0] 24 (0,0)):=by have h:=World.alloc_heap_new (w.alloc (.cells #[.int .i64 (R:Int),.int .i64 (C:Int),.slice a n c] 24)) (.cells #[.int .i64 0,.int .i64 0,.slice none 0 0] 24);simp only[World.size_alloc] at h;exact h
  generalize ((w.alloc (.cells #[.int .i64 (R:Int),.int .i64 (C:Int),.slice a n c] 24)).alloc (.cells #[.int .i64 0,.int .i64 0,.slice none 0 0] 24))=W0 at fsz fB fq0 fq1 ⊢
  obtain ⟨x0,x1,x2,xl⟩:=c3_of fq0
  have FB:=Lib.hid fB
  have Q0:=Lib.hid fq0
  have Q1:=Lib.hid fq1
  clear fsz fq0 fq1
  go_upto_region 3 with (first|(go_at_call 113;refine (isOrder_c _ _).mono ?_;rw[HI.out];rintro _ w1 ⟨rfl,rfl⟩)|fail)
  refine wp_region_S (fun w'=>∃u,w'=over (W0) u) [12,11,10,9] [(0,0),(0,1),(0,2),(0,4),(0,5),(0,6),(0,7),(0,8),(1,3),(2,9),(2,10),(2,11),(2,12)] (by kernel_rfl) (by kernel_rfl) (by exact ⟨_,below_over (by repeat (first|assumption|exact Below.refl _ _|refine keep_drew ?_|refine keep_alloc ?_ _|refine keep_trans ?_ (by assumption)))⟩) ?_
  dsimp only[pickOps,nthOp]
  repeat (first|(refine wpS_skip rfl (fun K hK=>?_);go_big_quiet_op;refine hK _ ?_;clear hK K)|(refine wpS_quiet rfl rfl (fun K hK=>?_);go_big_quiet_op;refine hK _ ?_;clear hK K)|(refine wpS_loud ?_;go_wp2_with (first|(go_at_call 114;refine (HCC.out _ (by (repeat (first|assumption|exact Below.refl _ _|refine keep_drew ?_|refine keep_alloc ?_ _|refine keep_trans ?_ (by assumption))))).mono ?_;rintro _ w1 ⟨rfl,hb1'⟩;have hb1:Below W0.heap.size W0 w1:=(by (repeat (first|assumption|exact Below.refl _ _|refine keep_drew ?_|refine keep_alloc ?_ _|refine keep_trans ?_ (by assumption)))))|(go_at_call 93;refine (twhen_c _ _ _).mono ?_;rintro _ w2 ⟨rfl,rfl⟩)|(go_at_call 92;refine (tfirst_c _ _ _ _ _ (IC.new2 _ _ _ _)).mono ?_;rw[HF.out];rintro _ w3 ⟨rfl,rfl⟩));refine ⟨?_,?_⟩;focus (exact ⟨_,below_over (by repeat (first|assumption|exact Below.refl _ _|refine keep_drew ?_|refine keep_alloc ?_ _|refine keep_trans ?_ (by assumption)))⟩)))
  refine wpS_late _ _ _ rfl ?_
  dsimp only[List.map]
  go_wp2_with (first|(go_at_call 114;refine (HCC.out _ (by (repeat (first|assumption|exact Below.refl _ _|refine keep_drew ?_|refine keep_alloc ?_ _|refine keep_trans ?_ (by assumption))))).mono ?_;rintro _ w1 ⟨rfl,hb1'⟩;have hb1:Below W0.heap.size W0 w1:=(by (repeat (first|assumption|exact Below.refl _ _|refine keep_drew ?_|refine keep_alloc ?_ _|refine keep_trans ?_ (by assumption)))))|(go_at_call 93;refine (twhen_c _ _ _).mono ?_;rintro _ w2 ⟨rfl,rfl⟩)|(go_at_call 92;refine (tfirst_c _ _ _ _ _ (IC.new2 _ _ _ _)).mono ?_;rw[HF.out];rintro _ w3 ⟨rfl,rfl⟩))
  refine NoPanic.normal ?_
  have hB2:Below W0.heap.size W0 (w1.alloc (.cells #[.int .i64 (symE 0 C cs),.int .i64 (whenV ((R:Int)==(C:Int)) 7)] 27)):=by (repeat (first|assumption|exact Below.refl _ _|refine keep_drew ?_|refine keep_alloc ?_ _|refine keep_trans ?_ (by assumption)))
  have HB2:=Lib.hid (keep_trans FB.out hB2)
  have P0:=Lib.hid (keepq hB2 Q0.out)
  have P1:=Lib.hid (keepq hB2 Q1.out)
  clear hB2 hb1 hb1' fB x0 x1 x2 xl
  generalize (w1.alloc (.cells #[.int .i64 (symE 0 C cs),.int .i64 (whenV ((R:Int)==(C:Int)) 7)] 27))=W2 at HB2 P0 P1 ⊢
  obtain ⟨y0,y1,y2,yl⟩:=c3_of P1.out
  obtain ⟨yf0,yf1,yf2⟩:=f3_of P1.out
  go_wp2_with fail
  have g3:=st3_q (x0 := .int .i64 0) (x1 := .int .i64 0) (x2 := .slice none 0 0) P1.out
  have hb3:=st3_below (x0 := .int .i64 0) (x1 := .int .i64 0) (x2 := .slice none 0 0) (b:=w.heap.size+1) HB2.out (by omega)
  obtain ⟨z0,z1,z2,zl⟩:=c3_of g3
  refine bodyPost_ret (v := .tuple #[.agg #[.int .i64 0,.int .i64 0,.slice none 0 0],.int .i64 (er)]) ?_ rfl ⟨none,0,rfl,World.ownsRow_nil _ _ _ _,(by first|exact hb3|exact hb3.drew)⟩
  simp[results,Tryz.f40,go_sem,z0,z1,z2]
theorem extend_c (R C:Int) (a:Option Addr) (n c:Nat) (cs:List Int) (w:World) (h:IC w a n cs) (hcap:n≤c) :
  Calls Tryz.prog 40 #[.agg #[.int .i64 R,.int .i64 C,.slice a n c]] w (GridE w (if exE R C cs=0 then R+1 else 0) (if exE R C cs=0 then C else 0) (exL R C cs) (exE R C cs)):=by
 cases hb:exB R C cs with
 | false =>
  have he:exE R C cs=2:=by unfold exE;rw[hb];rfl
  have h1:exL R C cs=[]:=by unfold exL;rw[he];rfl
  rw[he,h1,if_neg (by decide),if_neg (by decide)]
  exact extend_bad R C a n c cs w h hb
 | true =>
  have hb2:=hb
  unfold exB at hb2
  simp only[Bool.and_eq_true,decide_eq_true_eq] at hb2
  obtain ⟨⟨⟨⟨k1,k2⟩,k3⟩,k4⟩,k5⟩:=hb2
  obtain ⟨C,rfl⟩:∃k:Nat,C=(k:Int):=⟨C.toNat,by omega⟩
  obtain ⟨R,rfl⟩:∃k:Nat,R=(k:Int):=⟨R.toNat,by omega⟩
  have he:exE R C cs=firstL [symE 0 C cs,whenV ((R:Int)==(C:Int)) 7]:=by unfold exE;rw[hb,if_pos rfl];rfl
  have h1:exL R C cs=if exE R C cs=0 then cs++(rpO (leftR C R cs)).getD [] else []:=rfl
  rw[h1]
  exact extend_ok R C a n c cs w h hcap (by omega) (by omega) (by omega) (by have:=h.len;rw[← Int.natCast_mul] at k5;omega) _ he.symm
end
section
open Go Go.RowKit
attribute [local go_sem] over_cell
attribute [local go_sem] Oper.semAt_some
def inE (r C:Int) (cs:List Int):Int:=sqE 0 r C cs
def inL (r C:Int) (cs:List Int):Int:=if sqE 0 r C cs=0 then (itK r.toNat cs r.toNat:Int) else 0
theorem itJ_b {N:Nat} {cs:List Int} {k i m j:Nat} (hN:N≤16) (hj:j≤N):itJ N cs k i m j≤16:=Nat.le_trans (itJ_le ..) (by omega)
theorem itM_b {N:Nat} {cs:List Int} {k i m:Nat} (hN:N≤16) (hm:m≤N):itM N cs k i m≤256:=Nat.le_trans (itM_le _ _ _ _ _ hm) (Nat.mul_le_mul hN hN)
theorem itI_b {N:Nat} {cs:List Int} {k i:Nat} (hN:N≤16) (hi:i≤N):itI N cs k i≤4096:=Nat.le_trans (itI_le _ _ _ _ hi) (Nat.mul_le_mul hN (Nat.mul_le_mul hN hN))
theorem itK_b {N:Nat} {cs:List Int} {k:Nat} (hN:N≤16) (hk:k≤N):itK N cs k≤65536:=Nat.le_trans (itK_le _ _ _ hk) (Nat.mul_le_mul hN (Nat.mul_le_mul hN (Nat.mul_le_mul hN hN)))
theorem inter_c (r C:Int) (a:Option Addr) (m c:Nat) (cs:List Int) (w:World) (h:IC w a m cs):Calls Tryz.prog 74 #[.agg #[.int .i64 r,.int .i64 C,.slice a m c]] w fun e w'=>e = .returned (.tuple #[.int .i64 (inL r C cs),.int .i64 (inE r C cs)])∧Below w.heap.size w w':=by
 have HK:=Lib.hid (fun W (hb:Below w.heap.size w W)=>latcheck_c r C a m c cs W (h.mono hb))
 by_cases h0:sqE 0 r C cs=0
 ·have hcl:inL r C cs=(itK r.toNat cs r.toNat:Int):=if_pos h0
  have hce:inE r C cs=0:=h0
  rw[hcl,hce]
  rw[h0] at HK
  obtain ⟨N,rfl,rfl,L⟩:=sqE_ok h0
  rw[show ((N:Int)).toNat=N from rfl]
  have hN1:=L.pos
  have hN2:=L.le
  have hm:m=N*N:=by rw[← h.len];exact L.len
  have HAT:Hid (∀(i j:Nat) W,Below w.heap.size w W→i<N→j<N→Calls Tryz.prog 116 #[.agg #[.int .i64 (N:Int),.int .i64 (N:Int),.slice a m c],.int .i64 (i:Int),.int .i64 (j:Int)] W fun e w'=>e = .returned (.int .i64 (cs[i*N+j]?.getD 0))∧Below W.heap.size W w') :=
   fun i j W hb hi hj=>lat_c (N:Int) N i j a m c cs W (h.mono hb) (by omega) (by omega) hj (by rw[hm];exact gcell_lt hi hj)
  obtain ⟨T,hT⟩:∃T,T=itK N cs N:=⟨_,rfl⟩
  rw[← hT]
  have HT:=Lib.hid hT
  clear h0 h hcl hce hT hm L
  go_enter Tryz.func74,Tryz.ntmps74
  go_wp2_with fail
  have fB:Below w.heap.size w (w.alloc (.cells #[.int .i64 (N:Int),.int .i64 (N:Int),.slice a m c] 24)):=(Below.refl _ _).alloc (Nat.le_refl _) _
  have FQ:Hid ((w.alloc (.cells #[.int .i64 (N:Int),.int .i64 (N:Int),.slice a m c] 24)).heap[w.heap.size]?=some (.cells #[.int .i64 (N:Int),.int .i64 (N:Int),.slice a m c] 24 (0,0))):=World.alloc_heap_new _ _
  generalize (w.alloc (.cells #[.int .i64 (N:Int),.int .i64 (N:Int),.slice a m c] 24))=W0 at fB FQ ⊢
  obtain ⟨x0,x1,x2,xl⟩:=c3_of FQ.out
  go_wp2_with (first|(go_at_call 58;refine (HK.out _ fB).mono ?_;rintro _ w1 ⟨rfl,hb1⟩;clear x0 x1 x2 xl;obtain ⟨x0,x1,x2,xl⟩:=c3_of (keepq hb1 FQ.out))|fail)
  have HB1:=Lib.hid (keep_trans fB hb1)
  have Q1:=Lib.hid (keepq hb1 FQ.out)
  clear hb1 fB x0 x1 x2 xl
  obtain ⟨x0,x1,x2,xl⟩:=c3_of Q1.out
  go_loopw [5,6,7,8,9,17] (fun s5 _ _ _ _ s17 wr=>∃k:Nat,k≤N∧s17 = .int .i64 (k:Int)∧s5 = .int .i64 (itK N cs k:Int)∧Hid (Below w1.heap.size w1 wr)) (fun _ _ _ _ _ s17 _=>N - (intOf s17).toNat)
  case atStart=>exact ⟨0,by omega,rfl,rfl,Below.refl _ _⟩
  case round =>
   obtain ⟨k,hk1,rfl,rfl,hb2⟩:=hrel
   clear x0 x1 x2 xl
   obtain ⟨x0,x1,x2,xl⟩:=c3_of (keepq hb2.out Q1.out)
   by_cases hlt:k<N
   ·have hkI:(k:Int)<(N:Int):=by omega
    have HS:Hid (itK N cs (k+1)=itK N cs k+itI N cs k k):=rfl
    have hA:itK N cs k≤65536:=itK_b hN2 hk1
    generalize itK N cs k=A at HS hA ⊢
    go_wp2_with fail
    go_loopw [5,7,8,9,21] (fun s5 _ _ _ s21 wr2=>∃i:Nat,i≤k∧s21 = .int .i64 (i:Int)∧s5 = .int .i64 ((A+itI N cs k i:Nat):Int)∧Hid (Below wr.heap.size wr wr2)) (fun _ _ _ _ s21 _=>k - (intOf s21).toNat)
    case atStart=>exact ⟨0,by omega,rfl,rfl,Below.refl _ _⟩
    case round =>
     obtain ⟨i,hi1,rfl,rfl,hb3⟩:=hrel
     clear x0 x1 x2 xl
     have hb23:=keep_trans hb2.out hb3.out
     obtain ⟨x0,x1,x2,xl⟩:=c3_of (keepq hb23 Q1.out)
     by_cases hlt2:i<k
     ·have hiI:(i:Int)<(k:Int):=by omega
      have HS2:Hid (A+itI N cs k (i+1)=A+itI N cs k i+itM N cs k i N):=by unfold Hid;rw[show itI N cs k (i+1)=itI N cs k i+itM N cs k i N from rfl,Nat.add_assoc]
      have hA2:A+itI N cs k i≤70000:=by have:=itI_b (cs:=cs) (k:=k) (i:=i) hN2 (by omega);omega
      generalize A+itI N cs k i=A2 at HS2 hA2 ⊢
      have HB3:=Lib.hid hb23
      clear hb23
      go_wp2_with fail
      go_loopw [5,8,9,26] (fun s5 _ _ s26 wr3=>∃q:Nat,q≤N∧s26 = .int .i64 (q:Int)∧s5 = .int .i64 ((A2+itM N cs k i q:Nat):Int)∧Hid (Below wr.heap.size wr wr3)) (fun _ _ _ s26 _=>N - (intOf s26).toNat)
      case atStart=>exact ⟨0,by omega,rfl,rfl,Below.refl _ _⟩
      case round =>
       obtain ⟨q,hq1,rfl,rfl,hb4⟩:=hrel
       clear x0 x1 x2 xl
       have hb24:=keep_trans HB3.out hb4.out
       obtain ⟨x0,x1,x2,xl⟩:=c3_of (keepq hb24 Q1.out)
       by_cases hlt3:q<N
       ·have hqI:(q:Int)<(N:Int):=by omega
        have HS3:Hid (A2+itM N cs k i (q+1)=A2+itM N cs k i q+itJ N cs k i q q):=by unfold Hid;rw[show itM N cs k i (q+1)=itM N cs k i q+itJ N cs k i q q from rfl,Nat.add_assoc]
        have hA3:A2+itM N cs k i q≤71000:=by have:=itM_b (cs:=cs) (k:=k) (i:=i) (m:=q) hN2 (by omega);omega
        generalize A2+itM N cs k i q=A3 at HS3 hA3 ⊢
        have HB4:=Lib.hid hb24
        clear hb24
        go_wp2_with fail
        go_loopw [5,9,30] (fun s5 _ s30 wr4=>∃j:Nat,j≤q∧s30 = .int .i64 (j:Int)∧s5 = .int .i64 ((A3+itJ N cs k i q j:Nat):Int)∧Hid (Below wr.heap.size wr wr4)) (fun _ _ s30 _=>q - (intOf s30).toNat)
        case atStart=>exact ⟨0,by omega,rfl,rfl,Below.refl _ _⟩
        case round =>
         obtain ⟨j,hj1,rfl,rfl,hb5⟩:=hrel
         clear x0 x1 x2 xl
         have hb25:=keep_trans HB4.out hb5.out
         obtain ⟨x0,x1,x2,xl⟩:=c3_of (keepq hb25 Q1.out)
         have hbW:=keep_trans HB1.out hb25
         by_cases hlt4:j<q
         ·have hjI:(j:Int)<(q:Int):=by omega
          have HS4:Hid (A3+itJ N cs k i q (j+1)=A3+itJ N cs k i q j+itC N cs i k j q):=by unfold Hid;rw[show itJ N cs k i q (j+1)=itJ N cs k i q j+itC N cs i k j q from rfl,Nat.add_assoc]
          have hA4:A3+itJ N cs k i q j≤72000:=by have:=itJ_b (cs:=cs) (k:=k) (i:=i) (m:=q) (j:=j) hN2 (by omega);omega
          generalize A3+itJ N cs k i q j=A4 at HS4 hA4 ⊢
          have HA:Hid (∀(i j:Nat) W,Below wr.heap.size wr W→i<N→j<N→Calls Tryz.prog 116 #[.agg #[.int .i64 (N:Int),.int .i64 (N:Int),.slice a m c],.int .i64 (i:Int),.int .i64 (j:Int)] W fun e w'=>e = .returned (.int .i64 (cs[i*N+j]?.getD 0))∧Below W.heap.size W w'):=fun i j W hb=>HAT.out i j W (keep_trans hbW hb)
          clear HK HAT HB1 HB3 HB4 hbW hb25
          by_cases e1:cs[i*N+j]?.getD 0=cs[k*N+q]?.getD 0
          ·have hB1:(cs[i*N+j]?.getD 0==cs[k*N+q]?.getD 0)=true:=by simpa using e1
           by_cases e2:cs[i*N+q]?.getD 0=cs[k*N+j]?.getD 0
           ·have hB2:(cs[i*N+q]?.getD 0==cs[k*N+j]?.getD 0)=true:=by simpa using e2
            have hC:itC N cs i k j q=1:=if_pos ⟨e1,e2⟩
            rw[hC] at HS4
            clear hC e1 e2
            go_upto_region 17 with fail
            refine wp_region_S (fun w'=>∃u,w'=over (wr) u) [] [(0,0),(0,1),(0,2),(0,4),(0,5),(0,6),(1,3),(1,7),(0,8),(0,9),(0,10),(0,11),(0,12),(0,14),(0,15),(0,16),(1,13),(1,17),(0,18),(0,19)] (by kernel_rfl) (by kernel_rfl) (by exact ⟨_,below_over (by repeat (first|assumption|exact Below.refl _ _|refine keep_drew ?_|refine keep_alloc ?_ _|refine keep_trans ?_ (by assumption)))⟩) ?_
            dsimp only[pickOps,nthOp]
            repeat (first|(refine wpS_skip rfl (fun K hK=>?_);go_big_quiet_op;refine hK _ ?_;clear hK K)|(refine wpS_quiet rfl rfl (fun K hK=>?_);go_big_quiet_op;refine hK _ ?_;clear hK K)|(refine wpS_loud ?_;go_wp2_with (first|(go_at_call 116;refine (HA.out _ _ _ (by (repeat (first|assumption|exact Below.refl _ _|refine keep_drew ?_|refine keep_alloc ?_ _|refine keep_trans ?_ (by assumption)))) (by omega) (by omega)).mono ?_;rintro _ w5 ⟨rfl,hb6⟩)|fail);refine ⟨?_,?_⟩;focus (exact ⟨_,below_over (by repeat (first|assumption|exact Below.refl _ _|refine keep_drew ?_|refine keep_alloc ?_ _|refine keep_trans ?_ (by assumption)))⟩)))
            refine wpS_end ?_
            go_wp2_with fail
            go_roundw
            case rel=>exact ⟨j+1,by omega,by go_num,by rw[HS4.out];go_num,keep_trans hb5.out (show Below wr.heap.size wr w5 by (repeat (first|assumption|exact Below.refl _ _|refine keep_drew ?_|refine keep_alloc ?_ _|refine keep_trans ?_ (by assumption))))⟩
            case measure=>simp[intOf];omega
           ·have hB2:(cs[i*N+q]?.getD 0==cs[k*N+j]?.getD 0)=false:=by simpa using e2
            have hC:itC N cs i k j q=0:=if_neg (fun h=>e2 h.2)
            rw[hC] at HS4
            clear hC e1 e2
            go_upto_region 17 with fail
            refine wp_region_S (fun w'=>∃u,w'=over (wr) u) [] [(0,0),(0,1),(0,2),(0,4),(0,5),(0,6),(1,3),(1,7),(0,8),(0,9),(0,10),(0,11),(0,12),(0,14),(0,15),(0,16),(1,13),(1,17),(0,18),(0,19)] (by kernel_rfl) (by kernel_rfl) (by exact ⟨_,below_over (by repeat (first|assumption|exact Below.refl _ _|refine keep_drew ?_|refine keep_alloc ?_ _|refine keep_trans ?_ (by assumption)))⟩) ?_
            dsimp only[pickOps,nthOp]
            repeat (first|(refine wpS_skip rfl (fun K hK=>?_);go_big_quiet_op;refine hK _ ?_;clear hK K)|(refine wpS_quiet rfl rfl (fun K hK=>?_);go_big_quiet_op;refine hK _ ?_;clear hK K)|(refine wpS_loud ?_;go_wp2_with (first|(go_at_call 116;refine (HA.out _ _ _ (by (repeat (first|assumption|exact Below.refl _ _|refine keep_drew ?_|refine keep_alloc ?_ _|refine keep_trans ?_ (by assumption)))) (by omega) (by omega)).mono ?_;rintro _ w5 ⟨rfl,hb6⟩)|fail);refine ⟨?_,?_⟩;focus (exact ⟨_,below_over (by repeat (first|assumption|exact Below.refl _ _|refine keep_drew ?_|refine keep_alloc ?_ _|refine keep_trans ?_ (by assumption)))⟩)))
            refine wpS_end ?_
            go_wp2_with fail
            go_roundw
            case rel=>exact ⟨j+1,by omega,by go_num,by rw[HS4.out];rfl,keep_trans hb5.out (show Below wr.heap.size wr w5 by (repeat (first|assumption|exact Below.refl _ _|refine keep_drew ?_|refine keep_alloc ?_ _|refine keep_trans ?_ (by assumption))))⟩
            case measure=>simp[intOf];omega
          ·have hB1:(cs[i*N+j]?.getD 0==cs[k*N+q]?.getD 0)=false:=by simpa using e1
           have hC:itC N cs i k j q=0:=if_neg (fun h=>e1 h.1)
           rw[hC] at HS4
           clear hC e1
           go_upto_region 17 with fail
           refine wp_region_S (fun w'=>∃u,w'=over (wr) u) [] [(0,0),(0,1),(0,2),(0,4),(0,5),(0,6),(1,3),(1,7),(0,8),(0,9),(0,10),(0,11),(0,12),(0,14),(0,15),(0,16),(1,13),(1,17),(0,18),(0,19)] (by kernel_rfl) (by kernel_rfl) (by exact ⟨_,below_over (by repeat (first|assumption|exact Below.refl _ _|refine keep_drew ?_|refine keep_alloc ?_ _|refine keep_trans ?_ (by assumption)))⟩) ?_
           dsimp only[pickOps,nthOp]
           repeat (first|(refine wpS_skip rfl (fun K hK=>?_);go_big_quiet_op;refine hK _ ?_;clear hK K)|(refine wpS_quiet rfl rfl (fun K hK=>?_);go_big_quiet_op;refine hK _ ?_;clear hK K)|(refine wpS_loud ?_;go_wp2_with (first|(go_at_call 116;refine (HA.out _ _ _ (by (repeat (first|assumption|exact Below.refl _ _|refine keep_drew ?_|refine keep_alloc ?_ _|refine keep_trans ?_ (by assumption)))) (by omega) (by omega)).mono ?_;rintro _ w5 ⟨rfl,hb6⟩)|fail);refine ⟨?_,?_⟩;focus (exact ⟨_,below_over (by repeat (first|assumption|exact Below.refl _ _|refine keep_drew ?_|refine keep_alloc ?_ _|refine keep_trans ?_ (by assumption)))⟩)))
           refine wpS_end ?_
           go_wp2_with fail
           go_roundw
           case rel=>exact ⟨j+1,by omega,by go_num,by rw[HS4.out];rfl,keep_trans hb5.out (show Below wr.heap.size wr w5 by (repeat (first|assumption|exact Below.refl _ _|refine keep_drew ?_|refine keep_alloc ?_ _|refine keep_trans ?_ (by assumption))))⟩
           case measure=>simp[intOf];omega
         ·have e:j=q:=by omega
          subst e
          go_wp2_with fail
          go_roundw
          case rel=>exact ⟨j+1,by omega,by go_num,by rw[HS3.out],keep_trans hb4.out hb5.out⟩
          case measure=>simp[intOf];omega
       ·have e:q=N:=by omega
        subst e
        go_wp2_with fail
        go_roundw
        case rel=>exact ⟨i+1,by omega,by go_num,by rw[HS2.out],keep_trans hb3.out hb4.out⟩
        case measure=>simp[intOf];omega
     ·have e:i=k:=by omega
      subst e
      go_wp2_with fail
      go_roundw
      case rel=>exact ⟨i+1,by omega,by go_num,by rw[HS.out],keep_trans hb2.out hb3.out⟩
      case measure=>simp[intOf];omega
   ·have e:k=N:=by omega
    subst e
    rw[← HT.out]
    go_wp2_with fail
    refine bodyPost_ret (v := .tuple #[.int .i64 (T:Int),.int .i64 0]) ?_ rfl ⟨rfl,keep_trans HB1.out hb2.out⟩
    simp[results,Tryz.f74,go_sem]
 ·have hcl:inL r C cs=0:=if_neg h0
  have hce:inE r C cs=sqE 0 r C cs:=rfl
  rw[hcl,hce]
  have h0':(sqE 0 r C cs != 0)=true:=by simpa using h0
  generalize sqE 0 r C cs=er at HK h0' ⊢
  clear h0 h hcl hce
  go_enter Tryz.func74,Tryz.ntmps74
  go_wp2_with fail
  have fB:Below w.heap.size w (w.alloc (.cells #[.int .i64 r,.int .i64 C,.slice a m c] 24)):=(Below.refl _ _).alloc (Nat.le_refl _) _
  have FQ:Hid ((w.alloc (.cells #[.int .i64 r,.int .i64 C,.slice a m c] 24)).heap[w.heap.size]?=some (.cells #[.int .i64 r,.int .i64 C,.slice a m c] 24 (0,0))):=World.alloc_heap_new _ _
  generalize (w.alloc (.cells #[.int .i64 r,.int .i64 C,.slice a m c] 24))=W0 at fB FQ ⊢
  obtain ⟨x0,x1,x2,xl⟩:=c3_of FQ.out
  go_wp2_with (first|(go_at_call 58;refine (HK.out _ fB).mono ?_;rintro _ w1 ⟨rfl,hb1⟩)|fail)
  refine bodyPost_ret (v := .tuple #[.int .i64 0,.int .i64 er]) ?_ rfl ⟨rfl,keep_trans fB hb1⟩
  simp[results,Tryz.f74,go_sem]
end
section
open Go Go.RowKit
attribute [local go_sem] over_cell
attribute [local go_sem] Oper.semAt_some
theorem every_c (n:Nat) (hn:n≤100000) (fk:Nat) (fst caps:Array Value) (p:Nat→Bool) (I:Nat→World→Prop) (w:World)
  (hcf:∀args w,Sem.run Tryz.prog (callFunc fk args) w = .ok (.enter fk args) w) (h0:I 0 w)
  (hs:∀k:Nat,k<n→∀W,I k W→Calls Tryz.prog fk (fst.push (.int .i64 (k:Int))++caps) W (fun e w'=>e = .returned (.bool (p k))∧I (k+1) w')) :
  Calls Tryz.prog 179 #[.int .i64 (n:Int),.func (.func fk) fst caps] w fun e w'=>e = .returned (.bool ((List.range n).all p))∧∃k,I k w':=by
 have HS:=Lib.hid hs
 have H0:=Lib.hid h0
 clear hs h0
 go_enter Tryz.func179,Tryz.ntmps179
 go_wp2_with fail
 go_loopw [4,5,7] (fun _ _ s7 wr=>∃k:Nat,k≤n∧s7 = .int .i64 (k:Int)∧Hid (I k wr)∧Hid (∀j,j<k→p j=true)) (fun _ _ s7 _=>n - (intOf s7).toNat)
 case atStart=>exact ⟨0,by omega,rfl,H0,fun j h=>absurd h (by omega)⟩
 case round =>
  obtain ⟨k,hk1,rfl,hI,hp⟩:=hrel
  by_cases hlt:k<n
  ·have hkI:(k:Int)<(n:Int):=by omega
   have HC:=Lib.hid (HS.out k hlt _ hI.out)
   cases hb:p k with
   | true =>
    have HP:=Lib.hid hb
    rw[hb] at HC
    clear hb
    go_wp2_with (first|(refine HC.out.mono ?_;rintro _ w1 ⟨rfl,hi1⟩)|fail)
    go_roundw
    case rel=>exact ⟨k+1,by omega,by go_num,hi1,fun j hj=>by
      by_cases e:j=k
      ·rw[e];exact HP.out
      ·exact hp.out j (by omega)⟩
    case measure=>simp[intOf];omega
   | false =>
    have HA:=Lib.hid (allr_miss hlt hb)
    rw[hb] at HC
    clear hb
    go_wp2_with (first|(refine HC.out.mono ?_;rintro _ w1 ⟨rfl,hi1⟩)|fail)
    refine bodyPost_ret (v := .bool false) ?_ rfl ⟨by rw[HA.out],k+1,hi1⟩
    simp[results,Tryz.f179,go_sem]
  ·have e:k=n:=by omega
   subst e
   have HA:=Lib.hid (allr_upto hp.out)
   go_wp2_with fail
   refine bodyPost_ret (v := .bool true) ?_ rfl ⟨by rw[HA.out],k,hI.out⟩
   simp[results,Tryz.f179,go_sem]
end
end Go.Proofs.YtmfpdakaeagdpaaGreat
