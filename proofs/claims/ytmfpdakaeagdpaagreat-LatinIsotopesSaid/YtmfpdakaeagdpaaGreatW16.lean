/- Texts J62 to J66 of this proof, in one file. -/
import Derived.Test.YtmfpdakaeagdpaaGreatW01
import Derived.Test.YtmfpdakaeagdpaaGreatW02
import Derived.Test.YtmfpdakaeagdpaaGreatW03
import Derived.Test.YtmfpdakaeagdpaaGreatW04
import Derived.Test.YtmfpdakaeagdpaaGreatW05
import Derived.Test.YtmfpdakaeagdpaaGreatW06
import Derived.Test.YtmfpdakaeagdpaaGreatW07
import Derived.Test.YtmfpdakaeagdpaaGreatW08
import Derived.Test.YtmfpdakaeagdpaaGreatW09
import Derived.Test.YtmfpdakaeagdpaaGreatW10
import Derived.Test.YtmfpdakaeagdpaaGreatW11
import Derived.Test.YtmfpdakaeagdpaaGreatW12
import Derived.Test.YtmfpdakaeagdpaaGreatW13
import Derived.Below
import Derived.BigFrame
import Derived.BigQuiet
import Derived.Deep.CutBlock
import Derived.Deep.CutRange
import Derived.Deep.LoopGhost
import Derived.Deep.Quiet
import Derived.Deep.RegionHeld3
import Derived.DeepKeys4
import Derived.KernelRfl
import Derived.Laws.BitsAllLaws
import Derived.Laws.EntriesVeiled
import Derived.Lib.Hide
import Derived.Lib.SliceRun
import Derived.LoopIn
import Derived.LoopNIn
import Derived.Maps.AppendAt
import Derived.Maps.OwnIn
import Derived.Maps.OwnSet
import Derived.OneCell
import Derived.OrdersHeld
import Derived.OrdersIn
import Derived.OwnWalkIn
import Derived.RangeFuncBound
import Derived.RangeFuncCalls
import Derived.RangeFuncLeaves
import Derived.RangeFuncNested
import Derived.Shelf.Abstract
import Derived.Still
import Derived.TacticsIn
import Derived.TacticsInMore
import Derived.Test.YtmfpdakaeagdpaaGreatProg
import Derived.WalkKit
import Derived.WalkLawsBesides
import Derived.WalkSpells
import Derived.WideKeyPair
namespace Go.Proofs.YtmfpdakaeagdpaaGreat
set_option maxRecDepth 100000
set_option maxHeartbeats 16000000
section
open Go Go.RowKit
attribute [local go_sem] over_cell
attribute [local go_sem] Oper.semAt_some
def opN (ps:List Int) (k:Nat):Nat:=(ps.take k).countP fun x=>x == -1
theorem opN_succ {ps:List Int} {k:Nat} (hk:k<ps.length):opN ps (k+1)=if (ps[k]?.getD 0 == -1)=true then opN ps k+1 else opN ps k:=by
 unfold opN
 rw[List.take_add_one,List.getElem?_eq_getElem hk,List.countP_append,Option.toList_some,List.countP_singleton,Option.getD_some]
 split <;> omega
theorem opN_le (ps:List Int) (k:Nat):opN ps k≤k:=by
 unfold opN
 have:=List.countP_le_length (p:=fun x:Int=>x == -1) (l:=ps.take k)
 have:=List.length_take_le k ps
 omega
theorem sqE_part {r C:Int} {ps:List Int} (h:sqE (-1) r C ps=0):∃n:Nat,r=(n:Int)∧C=(n:Int)∧Part n ps:=by
 unfold sqE at h
 split at h
 ·rename_i hb
  unfold sqB at hb
  simp only[Bool.and_eq_true,decide_eq_true_eq] at hb
  obtain ⟨⟨⟨h1,h2⟩,h3⟩,h4⟩:=hb
  subst h1
  obtain ⟨n,rfl⟩:∃n:Nat,r=(n:Int):=⟨r.toNat,by omega⟩
  rw[Int.toNat_natCast] at h
  unfold symE at h
  split at h
  ·exact absurd h (by decide)
  ·rename_i ha
   split at h
   ·exact absurd h (by decide)
   ·rename_i ht
    have hall:∀j:Nat,j<ps.length → -1≤ps[j]?.getD 0∧ps[j]?.getD 0<(n:Int):=fun j hj=>by
     rw[Bool.not_eq_true,List.any_eq_false] at ha
     have:=ha _ (List.getElem_mem hj)
     rw[List.getElem?_eq_getElem hj,Option.getD_some]
     simp only[Bool.or_eq_true,decide_eq_true_eq] at this
     omega
    refine ⟨n,rfl,rfl,⟨by omega,by omega,by exact_mod_cast h4,fun j=>?_,fun j=>?_,by simpa using ht⟩⟩
    ·rcases Nat.lt_or_ge j ps.length with e|e
     ·exact (hall j e).1
     ·rw[List.getElem?_eq_none e];decide
    ·rcases Nat.lt_or_ge j ps.length with e|e
     ·exact (hall j e).2
     ·rw[List.getElem?_eq_none e];show (0:Int)<n;omega
 ·exact absurd h (by decide)
def coE (r C:Int) (ps:List Int) (lim:Int):Int:=firstL [sqE (-1) r C ps,whenV (decide (lim<1)||decide (256<lim)) 3]
def coB (r:Int) (ps:List Int):Bool:=decide (7<r)||decide ((25:Int)<(opN ps ps.length:Int))
def coL (r C:Int) (ps:List Int) (lim:Int):List (List Int):=if coE r C ps lim=0 then (if coB r ps=true then [] else (compP r.toNat okT (r.toNat*r.toNat) 0 ps).take lim.toNat) else []
def coEr (r C:Int) (ps:List Int) (lim:Int):Int:=if coE r C ps lim=0 then (if coB r ps=true then 20 else whenV (decide ((coL r C ps lim).length=0)) 21) else coE r C ps lim
theorem coE_ok {r C lim:Int} {ps:List Int} (h:coE r C ps lim=0):∃n:Nat,r=(n:Int)∧C=(n:Int)∧Part n ps∧1≤lim∧lim≤256:=by
 unfold coE at h
 obtain ⟨h1,h2⟩:=firstL_cons0 h
 obtain ⟨h3,_⟩:=firstL_cons0 h2
 obtain ⟨n,rfl,rfl,P⟩:=sqE_part h1
 refine ⟨n,rfl,rfl,P,?_⟩
 unfold whenV at h3
 split at h3
 ·exact absurd h3 (by decide)
 ·rename_i hx
  simp only[Bool.or_eq_true,decide_eq_true_eq,not_or] at hx
  omega
def GridsE (w:World) (n:Nat) (css:List (List Int)) (er:Int) (e:Ending) (w':World):Prop :=
 ∃a c,e = .returned (.tuple #[.slice a css.length c,.int .i64 er])∧GL w' a css.length n css∧Below w.heap.size w w'
theorem gl_nil (W:World) (n:Nat):GL W none 0 n []:=⟨⟨rfl,by omega⟩,fun k hk=>absurd hk (by omega)⟩
theorem complete_c (r C:Int) (a:Option Addr) (n c:Nat) (ps:List Int) (lim:Int) (w:World) (h:IC w a n ps) :
  Calls Tryz.prog 27 #[.agg #[.int .i64 r,.int .i64 C,.slice a n c],.int .i64 lim] w (GridsE w r.toNat (coL r C ps lim) (coEr r C ps lim)):=by
 have HCK:=Lib.hid (fun W (hb:Below w.heap.size w W)=>sq_c r C a n c ps (-1) W (h.mono hb) (by decide))
 have HF:Hid (firstL [sqE (-1) r C ps,whenV (decide (lim<1)||decide (256<lim)) 3]=coE r C ps lim):=rfl
 by_cases h0:coE r C ps lim=0
 ·obtain ⟨N,rfl,rfl,P,hl1,hl2⟩:=coE_ok h0
  have hm:n=N*N:=by rw[← h.len,P.len]
  have hN:=P.n2
  have hN1:=P.n1
  have hNN:N*N≤16*16:=Nat.mul_le_mul hN hN
  have hd:(decide (lim<1)||decide (256<lim))=false:=by rw[decide_eq_false (by omega),decide_eq_false (by omega)];rfl
  have hd1:decide (lim<1)=false:=decide_eq_false (by omega)
  have hd2:decide (256<lim)=false:=decide_eq_false (by omega)
  rw[hd,h0] at HF
  have hL:coL (N:Int) (N:Int) ps lim=if coB (N:Int) ps=true then [] else (compP N okT n 0 ps).take lim.toNat:=by unfold coL;rw[if_pos h0,hm];rfl
  have hE:coEr (N:Int) (N:Int) ps lim=if coB (N:Int) ps=true then 20 else whenV (decide ((coL (N:Int) (N:Int) ps lim).length=0)) 21:=by unfold coEr;rw[if_pos h0]
  have hps:ps.length=n:=h.len
  have HON:=Lib.hid (fun k hk=>opN_succ (ps:=ps) (k:=k) hk)
  have HOL:=Lib.hid (opN_le ps)
  have HSU:=Lib.hid (ic_sure h)
  have HP:=Lib.hid P
  have HMN:=Lib.hid hm
  have HPL:=Lib.hid hps
  have hBd:coB (N:Int) ps=(decide ((7:Int)<(N:Int))||decide ((25:Int)<(opN ps n:Int))):=by unfold coB;rw[hps]
  have hn16:n≤256:=by omega
  generalize coL (N:Int) (N:Int) ps lim=XL at hL hE ⊢
  generalize coEr (N:Int) (N:Int) ps lim=ER at hE ⊢
  have HXL:=Lib.hid hL
  have HER:=Lib.hid hE
  have HBd:=Lib.hid hBd
  rw[show ((N:Int)).toNat=N from rfl]
  clear h0 hm hNN hd hps P hL hE hBd
  go_enter Tryz.func27,Tryz.ntmps27
  go_upto_region 1 with fail
  have fB:Below w.heap.size w (w.alloc (.cells #[.int .i64 (N:Int),.int .i64 (N:Int),.slice a n c] 24)):=(Below.refl _ _).alloc (Nat.le_refl _) _
  have FQ:Hid ((w.alloc (.cells #[.int .i64 (N:Int),.int .i64 (N:Int),.slice a n c] 24)).heap[w.heap.size]?=some (.cells #[.int .i64 (N:Int),.int .i64 (N:Int),.slice a n c] 24 (0,0))):=World.alloc_heap_new _ _
  generalize (w.alloc (.cells #[.int .i64 (N:Int),.int .i64 (N:Int),.slice a n c] 24))=W0 at fB FQ ⊢
  obtain ⟨x0,x1,x2,xl⟩:=c3_of FQ.out
  go_upto_region 2 with (first|(go_at_call 103;refine (HCK.out _ fB).mono ?_;rintro _ w1 ⟨rfl,hb1⟩)|(go_at_call 93;refine (twhen_c _ _ _).mono ?_;rintro _ w2 ⟨rfl,rfl⟩)|(go_at_call 92;refine (tfirst_c _ _ _ _ _ (IC.new2 _ _ _ _)).mono ?_;rw[HF.out];rintro _ w3 ⟨rfl,rfl⟩)|fail)
  have HB2:Hid (Below w.heap.size w (w1.alloc (.cells #[.int .i64 (sqE (-1) (N:Int) (N:Int) ps),.int .i64 (whenV false 3)] 27))):=by unfold Hid;(repeat (first|assumption|exact Below.refl _ _|refine keep_drew ?_|refine keep_alloc ?_ _|refine keep_trans ?_ (by assumption)))
  have HQ2:=Lib.hid (keepq (keep_alloc hb1 (.cells #[.int .i64 (sqE (-1) (N:Int) (N:Int) ps),.int .i64 (whenV false 3)] 27)) FQ.out)
  clear x0 x1 x2 xl hb1 fB FQ
  generalize (w1.alloc (.cells #[.int .i64 (sqE (-1) (N:Int) (N:Int) ps),.int .i64 (whenV false 3)] 27))=W2 at HB2 HQ2 ⊢
  obtain ⟨x0,x1,x2,xl⟩:=c3_of HQ2.out
  have hic:=(HSU.out.keep HB2.out.size (fun k e=>HB2.out.block k e)).here
  have HIC:=Lib.hid hic
  clear hic
  go_wp2_with fail
  go_loop [7,9,28] (fun s7 _ s28=>∃k:Nat,k≤n∧s28 = .int .i64 (k:Int)∧s7 = .int .i64 (opN ps k:Int)) (fun _ _ s=>n - (intOf s).toNat)
  case atStart=>exact ⟨0,by omega,rfl,rfl⟩
  case round =>
   obtain ⟨k,hk,rfl,rfl⟩:=hrel
   have hol:=HOL.out k
   by_cases hlt:k<n
   ·obtain ⟨b,off,rfl,hb,hc⟩:=HIC.out.2 k hlt
    have hki:(k:Int)<(n:Int):=by omega
    have HS:=Lib.hid (HON.out k (by rw[HPL.out];exact hlt))
    obtain ⟨x,hx⟩:∃x,x=ps[k]?.getD 0:=⟨_,rfl⟩
    rw[← hx] at hc HS
    clear hx
    cases he:(x == -1) with
    | true =>
     rw[he,if_pos rfl] at HS
     go_wp2
     go_round
     case rel=>exact ⟨k+1,by omega,by go_num,by rw[HS.out];go_num⟩
     case measure=>simp[intOf];omega
    | false =>
     rw[he,if_neg (by decide)] at HS
     go_wp2
     go_round
     case rel=>exact ⟨k+1,by omega,by go_num,by rw[HS.out]⟩
     case measure=>simp[intOf];omega
   ·have e:k=n:=by omega
    subst e
    obtain ⟨on,hon⟩:∃on,on=opN ps k:=⟨_,rfl⟩
    rw[← hon] at HBd hol ⊢
    clear hon
    by_cases h7:7<N
    ·have hd7:decide ((7:Int)<(N:Int))=true:=decide_eq_true (by omega)
     have hb:coB (N:Int) ps=true:=by rw[HBd.out,hd7];rfl
     have hX:XL=[]:=by rw[HXL.out,if_pos hb]
     have hE2:ER=20:=by rw[HER.out,if_pos hb]
     clear HXL HER HBd hb
     subst hX hE2
     go_wp2_with fail
     go_ret2
     exact ⟨none,0,rfl,gl_nil _ _,HB2.out⟩
    ·have hd7:decide ((7:Int)<(N:Int))=false:=decide_eq_false (by omega)
     by_cases h25:25<on
     ·have hd25:decide ((25:Int)<(on:Int))=true:=decide_eq_true (by omega)
      have hb:coB (N:Int) ps=true:=by rw[HBd.out,hd7,hd25];rfl
      have hX:XL=[]:=by rw[HXL.out,if_pos hb]
      have hE2:ER=20:=by rw[HER.out,if_pos hb]
      clear HXL HER HBd hb
      subst hX hE2
      go_wp2_with fail
      go_ret2
      exact ⟨none,0,rfl,gl_nil _ _,HB2.out⟩
     ·have hd25:decide ((25:Int)<(on:Int))=false:=decide_eq_false (by omega)
      have hb:¬coB (N:Int) ps=true:=by rw[HBd.out,hd7,hd25];decide
      have HX:Hid (XL=(compP N okT k 0 ps).take lim.toNat):=by unfold Hid;rw[HXL.out,if_neg hb]
      have HE2:Hid (ER=whenV (decide (XL.length=0)) 21):=by unfold Hid;rw[HER.out,if_neg hb]
      clear HXL HER HBd hb
      go_wp2_with (first|(go_at_call 98;refine (comps_c _ _ _ _ _ _ _ _).mono ?_;rintro _ w6 ⟨rfl,hq6,hq61,hq62,hb6⟩)|(go_at_call 104;refine (taking_c _ N a k c ps lim _ HP.out HMN.out hq6 hq61 hq62 (HIC.out.mono hb6) (.inl ⟨hl1,by omega⟩)).mono ?_;rintro _ w7 ⟨v7,pre,rfl,hgi,hpre,hb7⟩;obtain ⟨a7,c7,rfl⟩:=owns_shape3 hgi.1)|(go_at_call 93;refine (twhen_c _ _ _).mono ?_;rintro _ w2 ⟨rfl,rfl⟩)|fail)
      go_ret2
      have hpre2:pre.map Prod.snd=XL:=by rw[hpre,HX.out];unfold takeI;rw[if_neg (by omega)]
      have hpl:pre.length=XL.length:=by rw[← hpre2,List.length_map]
      have hlen:pre.length≤256:=by
       rw[hpl,HX.out]
       have:=List.length_take_le lim.toNat (compP N okT k 0 ps)
       omega
      have hel:∀x,x∈pre→x.2.length≤17592186044416:=fun x hx=>by
       have hx2:x.2∈XL:=by rw[← hpre2];exact List.mem_map.2 ⟨x,hx,rfl⟩
       rw[HX.out] at hx2
       have hP:=HP.out
       have:=(comp_sound (f:=k) (k:=0) (by rw[HPL.out];omega) (fun i hi=>absurd hi (by omega)) (fun y hy=>by
        obtain ⟨i,hi,e⟩:=List.getElem_of_mem hy
        have:=hP.lt i
        rw[List.getElem?_eq_getElem hi,Option.getD_some,e] at this
        exact this) (once_iff.1 hP.once) (List.mem_of_mem_take hx2)).1.1
       rw[this,HPL.out];omega
      obtain ⟨a8,c8,he,hgl⟩:=hgi.gl (by omega) hel
      simp only[Value.slice.injEq] at he
      obtain ⟨rfl,_,rfl⟩:=he
      rw[hpre2] at hgl
      have hXp:(((pre.length:Int)==0):Bool)=decide (XL.length=0):=by
       rw[← hpl,Bool.eq_iff_iff];simp
      refine ⟨a7,c7,?_,by rw[← hpl];exact hgl,keep_trans (keep_trans HB2.out hb6) hb7⟩
      rw[HE2.out,← hXp,← hpl]
      rfl
 ·have h0':(coE r C ps lim != 0)=true:=by simpa using h0
  have hL:coL r C ps lim=[]:=if_neg h0
  have hE:coEr r C ps lim=coE r C ps lim:=if_neg h0
  rw[hL,hE]
  generalize coE r C ps lim=er at HF h0' ⊢
  clear h0 hL hE h
  by_cases h1:lim<1
  ·have hd:decide (lim<1)=true:=decide_eq_true h1
   rw[hd,Bool.true_or] at HF
   go_enter Tryz.func27,Tryz.ntmps27
   go_upto_region 1 with fail
   have fB:Below w.heap.size w (w.alloc (.cells #[.int .i64 r,.int .i64 C,.slice a n c] 24)):=(Below.refl _ _).alloc (Nat.le_refl _) _
   have FQ:Hid ((w.alloc (.cells #[.int .i64 r,.int .i64 C,.slice a n c] 24)).heap[w.heap.size]?=some (.cells #[.int .i64 r,.int .i64 C,.slice a n c] 24 (0,0))):=World.alloc_heap_new _ _
   generalize (w.alloc (.cells #[.int .i64 r,.int .i64 C,.slice a n c] 24))=W0 at fB FQ ⊢
   obtain ⟨x0,x1,x2,xl⟩:=c3_of FQ.out
   go_upto_region 2 with (first|(go_at_call 103;refine (HCK.out _ fB).mono ?_;rintro _ w1 ⟨rfl,hb1⟩)|(go_at_call 93;refine (twhen_c _ _ _).mono ?_;rintro _ w2 ⟨rfl,rfl⟩)|(go_at_call 92;refine (tfirst_c _ _ _ _ _ (IC.new2 _ _ _ _)).mono ?_;rw[HF.out];rintro _ w3 ⟨rfl,rfl⟩)|fail)
   go_wp2_with fail
   go_ret2
   exact ⟨none,0,rfl,gl_nil _ _,by (repeat (first|assumption|exact Below.refl _ _|refine keep_drew ?_|refine keep_alloc ?_ _|refine keep_trans ?_ (by assumption)))⟩
  ·have hd:decide (lim<1)=false:=decide_eq_false h1
   rw[hd,Bool.false_or] at HF
   go_enter Tryz.func27,Tryz.ntmps27
   go_upto_region 1 with fail
   have fB:Below w.heap.size w (w.alloc (.cells #[.int .i64 r,.int .i64 C,.slice a n c] 24)):=(Below.refl _ _).alloc (Nat.le_refl _) _
   have FQ:Hid ((w.alloc (.cells #[.int .i64 r,.int .i64 C,.slice a n c] 24)).heap[w.heap.size]?=some (.cells #[.int .i64 r,.int .i64 C,.slice a n c] 24 (0,0))):=World.alloc_heap_new _ _
   generalize (w.alloc (.cells #[.int .i64 r,.int .i64 C,.slice a n c] 24))=W0 at fB FQ ⊢
   obtain ⟨x0,x1,x2,xl⟩:=c3_of FQ.out
   go_upto_region 2 with (first|(go_at_call 103;refine (HCK.out _ fB).mono ?_;rintro _ w1 ⟨rfl,hb1⟩)|(go_at_call 93;refine (twhen_c _ _ _).mono ?_;rintro _ w2 ⟨rfl,rfl⟩)|(go_at_call 92;refine (tfirst_c _ _ _ _ _ (IC.new2 _ _ _ _)).mono ?_;rw[HF.out];rintro _ w3 ⟨rfl,rfl⟩)|fail)
   go_wp2_with fail
   go_ret2
   exact ⟨none,0,rfl,gl_nil _ _,by (repeat (first|assumption|exact Below.refl _ _|refine keep_drew ?_|refine keep_alloc ?_ _|refine keep_trans ?_ (by assumption)))⟩
end
section
open Go Go.RowKit
attribute [local go_sem] over_cell
attribute [local go_sem] Oper.semAt_some
def farO (x:Int):Bool:=decide (x<0)||decide (999999999<x)
theorem cks1_c (x:Int) (w:World):Calls Tryz.prog 160 #[.int .i64 x] w fun e w'=>e = .returned (.bool (farO x))∧Below w.heap.size w w':=by
 by_cases h:x<0
 ·have hd:decide (x<0)=true:=decide_eq_true h
  go_enter Tryz.func160,Tryz.ntmps160
  go_wp2
  go_ret
  exact ⟨by unfold farO;rw[hd];rfl,Below.refl _ _⟩
 ·have hd:decide (x<0)=false:=decide_eq_false h
  go_enter Tryz.func160,Tryz.ntmps160
  go_wp2
  go_ret
  exact ⟨by unfold farO;rw[hd,Bool.false_or];rfl,Below.refl _ _⟩
theorem enterCks:∀args w,Sem.run Tryz.prog (callFunc 160 args) w = .ok (.enter 160 args) w:=by
 intro args w;kernel_rfl
def risB (s:List Int) (k:Nat):Bool:=(List.range k).all fun i=>decide (i=0)||decide (s[i - 1]?.getD 0<s[i]?.getD 0)
theorem risB_one (s:List Int):risB s 1=true:=by simp[risB]
theorem risB_zero (s:List Int):risB s 0=true:=rfl
theorem risB_succ (s:List Int) {i:Nat} (h:1≤i):risB s (i+1)=(risB s i&&decide (s[i - 1]?.getD 0<s[i]?.getD 0)):=by
 unfold risB
 rw[List.range_succ,List.all_append,List.all_cons,List.all_nil,Bool.and_true,decide_eq_false (show ¬i=0 by omega),Bool.false_or]
def setE (s:List Int):Int:=firstL [whenV (decide ((64:Int)<(s.length:Int))) 5,whenV (s.any farO) 3,whenV (!risB s s.length) 11]
def stE (sets:List (List Int)):Int:=if 32<sets.length then 5 else firstL (sets.map setE)
theorem map_setE (sets:List (List Int)) {j:Nat} (hj:j<sets.length):(sets.map setE)[j]?.getD 0=setE (sets[j]?.getD []):=by
 rw[List.getElem?_map,List.getElem?_eq_getElem hj];rfl
theorem stE_hit {sets:List (List Int)} {k:Nat} (h32:sets.length≤32) (hk:k<sets.length) (hb:∀j,j<k→setE (sets[j]?.getD [])=0) (h:setE (sets[k]?.getD [])≠0):stE sets=setE (sets[k]?.getD []):=by
 unfold stE
 rw[if_neg (by omega),← map_setE sets hk]
 exact firstL_hit (fun j hj=>by rw[map_setE sets (by omega)];exact hb j hj) (by rw[List.length_map];exact hk) (by rw[map_setE sets hk];exact h)
theorem stE_none {sets:List (List Int)} (h32:sets.length≤32) (hb:∀j,j<sets.length→setE (sets[j]?.getD [])=0):stE sets=0:=by
 unfold stE
 rw[if_neg (by omega)]
 exact firstL_none (fun j hj=>by rw[List.length_map] at hj;rw[map_setE sets hj];exact hb j hj)
theorem csets_c (a:Option Addr) (n c:Nat) (sets:List (List Int)) (w:World) (h:RC w a n sets) :
  Calls Tryz.prog 108 #[.slice a n c] w fun e w'=>e = .returned (.int .i64 (stE sets))∧Below w.heap.size w w':=by
 have hlen:=h.1.1
 by_cases h32:32<n
 ·have hd:decide ((32:Int)<(n:Int))=true:=decide_eq_true (by omega)
  have HE:Hid (stE sets=5):=if_pos (by omega)
  clear h hlen
  go_enter Tryz.func108,Tryz.ntmps108
  go_wp2
  go_ret
  exact ⟨ret_int HE.out.symm,Below.refl _ _⟩
 ·have HHIT:=Lib.hid (fun k=>stE_hit (sets:=sets) (k:=k) (by omega))
  have HNONE:=Lib.hid (stE_none (sets:=sets) (by omega))
  have HLN:=Lib.hid hlen
  have HRC:=Lib.hid h
  generalize stE sets=er at HHIT HNONE ⊢
  clear h hlen
  go_enter Tryz.func108,Tryz.ntmps108
  go_wp2_with fail
  go_loopw [4,5,6,7,8,14] (fun _ _ _ _ _ s wr=>∃k:Nat,k≤n∧s = .int .i64 (k:Int)∧Hid (∀j,j<k→setE (sets[j]?.getD [])=0)∧Hid (Below w.heap.size w wr)) (fun _ _ _ _ _ s _=>n - (intOf s).toNat)
  case atStart=>exact ⟨0,by omega,rfl,fun j hj=>absurd hj (by omega),Below.refl _ _⟩
  case round =>
   obtain ⟨k,hk,rfl,hbf,hbr⟩:=hrel
   by_cases hlt:k<n
   ·obtain ⟨b,off,a',n',c',rfl,hb,hc,hi,_⟩:=(HRC.out.mono hbr.out).2 k hlt
    have hki:(k:Int)<(n:Int):=by omega
    have HH1:=Lib.hid (fun e=>HHIT.out k (by rw[HLN.out];exact hlt) hbf.out e)
    obtain ⟨s,hs⟩:∃s,s=sets[k]?.getD []:=⟨_,rfl⟩
    rw[← hs] at hi HH1
    have HS:=Lib.hid hs
    have hsl:=hi.len
    have hsm:=hi.small
    have HC:=Lib.hid (containsFuncI_c a' n' c' s 160 #[] (fun j=>farO (s[j]?.getD 0)) wr hi enterCks (fun j hj w' _=>cks1_c (s[j]?.getD 0) w'))
    have HAN:=Lib.hid (anyP_any (f:=farO) (cs:=s))
    have HSE:Hid (setE s=firstL [whenV (decide ((64:Int)<(n':Int))) 5,whenV (s.any farO) 3,whenV (!risB s n') 11]):=by unfold Hid setE;rw[hsl]
    rw[hsl] at HAN
    rw[HAN.out] at HC
    have HIC:=Lib.hid hi
    generalize s.any farO=ob at HC HSE
    clear hs hsl hi HAN
    go_upto_region 9 with (first|(go_at_call 138;refine HC.out.mono ?_;rintro _ w1 ⟨rfl,hb1⟩)|fail)
    have HB1:=Lib.hid hb1
    clear hb1 hc
    go_loopw [6,7] (fun s6 s7 wr2=>∃i:Nat,(i+1≤n'∨i=0)∧s7 = .int .i64 ((i:Int)+1)∧s6 = .bool (risB s (i+1))∧Hid (Below w1.heap.size w1 wr2)) (fun _ s7 _=>n'+1 - (intOf s7).toNat)
    case atStart=>exact ⟨0,.inr rfl,rfl,by rw[risB_one],Below.refl _ _⟩
    case round =>
     obtain ⟨i,hi1,rfl,rfl,hb2⟩:=hrel
     by_cases hlt2:i+1<n'
     ·have hic2:=HIC.out.mono (keep_trans HB1.out hb2.out)
      obtain ⟨b1,off1,rfl,hbl1,hc1⟩:=hic2.2 i (by omega)
      obtain ⟨b2,off2,e2,hbl2,hc2⟩:=hic2.2 (i+1) hlt2
      cases e2
      have hki2:(i:Int)+1<(n':Int):=by omega
      have HSU:=Lib.hid (risB_succ s (i:=i+1) (by omega))
      rw[Nat.add_sub_cancel] at HSU
      generalize s[i]?.getD 0=x1 at hc1 HSU
      generalize s[i+1]?.getD 0=x2 at hc2 HSU
      generalize risB s (i+1)=rb at HSU ⊢
      clear hic2
      cases rb with
      | false =>
       rw[Bool.false_and] at HSU
       go_wp2_with fail
       refine wp_region_S (fun w'=>∃u,w'=over (wr) u) [13] [(0,0),(0,1),(0,2),(0,3),(0,4),(0,5),(0,6),(0,7),(0,8),(0,9),(0,10),(0,11),(0,12),(2,13)] (by kernel_rfl) (by kernel_rfl) (by exact ⟨_,below_over (by repeat (first|assumption|exact Below.refl _ _|refine keep_drew ?_|refine keep_alloc ?_ _|refine keep_trans ?_ (by assumption)))⟩) ?_
       dsimp only[pickOps,nthOp]
       repeat (first|(refine wpS_skip rfl (fun K hK=>?_);go_big_quiet_op;refine hK _ ?_;clear hK K)|(refine wpS_quiet rfl rfl (fun K hK=>?_);go_big_quiet_op;refine hK _ ?_;clear hK K))
       refine wpS_late _ _ _ rfl ?_
       dsimp only[List.map]
       go_wp2
       refine NoPanic.normal ?_
       go_wp2_with fail
       go_roundw
       case rel=>exact ⟨i+1,.inl (by omega),by go_num,by rw[HSU.out],hb2.out.drew⟩
       case measure=>simp[intOf];omega
      | true =>
       rw[Bool.true_and] at HSU
       go_wp2_with fail
       refine wp_region_S (fun w'=>∃u,w'=over (wr) u) [13] [(0,0),(0,1),(0,2),(0,3),(0,4),(0,5),(0,6),(0,7),(0,8),(0,9),(0,10),(0,11),(0,12),(2,13)] (by kernel_rfl) (by kernel_rfl) (by exact ⟨_,below_over (by repeat (first|assumption|exact Below.refl _ _|refine keep_drew ?_|refine keep_alloc ?_ _|refine keep_trans ?_ (by assumption)))⟩) ?_
       dsimp only[pickOps,nthOp]
       repeat (first|(refine wpS_skip rfl (fun K hK=>?_);go_big_quiet_op;refine hK _ ?_;clear hK K)|(refine wpS_quiet rfl rfl (fun K hK=>?_);go_big_quiet_op;refine hK _ ?_;clear hK K))
       refine wpS_late _ _ _ rfl ?_
       dsimp only[List.map]
       go_wp2
       refine NoPanic.normal ?_
       go_wp2_with fail
       go_roundw
       case rel=>exact ⟨i+1,.inl (by omega),by go_num,by rw[HSU.out],hb2.out.drew⟩
       case measure=>simp[intOf];omega
     ·have HR:Hid (risB s (i+1)=risB s n'):=by
       unfold Hid
       rcases Nat.lt_or_ge 0 n' with e|e
       ·rw[show i+1=n' by omega]
       ·rw[show i=0 by omega,show n'=0 by omega,risB_one,risB_zero]
      have hki2:¬(i:Int)+1<(n':Int):=by omega
      rw[HR.out]
      have hbw:=keep_trans (keep_trans hbr.out HB1.out) hb2.out
      have HBW:=Lib.hid hbw
      generalize risB s n'=rb at HSE ⊢
      clear HR hbw
      by_cases h0:setE s=0
      ·have HF:Hid (firstL [whenV (decide ((64:Int)<(n':Int))) 5,whenV ob 3,whenV (!rb) 11]=0):=by unfold Hid;rw[← HSE.out];exact h0
       go_wp2_with (first|(go_at_call 93;refine (twhen_c _ _ _).mono ?_;rintro _ w2 ⟨rfl,rfl⟩)|(go_at_call 92;refine (tfirst_c _ _ _ _ _ (IC.new3 _ _ _ _ _)).mono ?_;rw[HF.out];rintro _ w3 ⟨rfl,rfl⟩)|fail)
       go_roundw
       case rel=>exact ⟨k+1,by omega,by go_num,fun j hj=>by
        rcases Nat.lt_or_ge j k with e|e
        ·exact hbf.out j e
        ·rw[show j=k by omega,← HS.out];exact h0,keep_alloc HBW.out _⟩
       case measure=>simp[intOf];omega
      ·have hne:er=setE s:=HH1.out h0
       have HF:Hid (firstL [whenV (decide ((64:Int)<(n':Int))) 5,whenV ob 3,whenV (!rb) 11]=er):=by unfold Hid;rw[← HSE.out,hne]
       have h0':(er != 0)=true:=by rw[hne];simpa using h0
       clear hne
       go_wp2_with (first|(go_at_call 93;refine (twhen_c _ _ _).mono ?_;rintro _ w2 ⟨rfl,rfl⟩)|(go_at_call 92;refine (tfirst_c _ _ _ _ _ (IC.new3 _ _ _ _ _)).mono ?_;rw[HF.out];rintro _ w3 ⟨rfl,rfl⟩)|fail)
       go_ret
       exact ⟨rfl,keep_alloc HBW.out _⟩
   ·have e:k=n:=by omega
    subst e
    have HE:Hid (er=0):=HNONE.out (fun j hj=>hbf.out j (by rw[← HLN.out];exact hj))
    go_wp2_with fail
    go_ret
    exact ⟨ret_int HE.out.symm,hbr.out⟩
end
section
def GrowsP (U:List Int) (place:Nat→HSt→Bool × HSt):Prop :=
 ∀s st,(∀x,x∈st.seen→x∈(place s st).2.seen)∧(place s st).2.asked.length+unseen U (place s st).2.seen≤st.asked.length+unseen U st.seen+1
theorem try_grows {U:List Int} {place:Nat→HSt→Bool × HSt} (hp:GrowsP U place) (s:Nat):∀(xs:List Int) (st:HSt),(∀x,x∈xs→x∈U) →
  (∀x,x∈st.seen→x∈(tryM place s xs st).2.seen)∧(tryM place s xs st).2.asked.length+unseen U (tryM place s xs st).2.seen≤st.asked.length+unseen U st.seen
 | [],st,_=>⟨fun _ h=>h,Nat.le_refl _⟩
 | x :: xs,st,hx=>by
  have ih:=fun st'=>try_grows hp s xs st' (fun y hy=>hx y (List.mem_cons_of_mem _ hy))
  rw[tryM]
  split
  ·exact ih st
  ·rename_i hn
   have hlt:=unseen_cons (hx x List.mem_cons_self) hn
   cases hh:st.hold x with
   | none=>exact ⟨fun y hy=>List.mem_cons_of_mem _ hy,by dsimp only;omega⟩
   | some o =>
    dsimp only
    obtain ⟨h1,h2⟩:=hp o ⟨st.hold,x :: st.seen,st.asked⟩
    dsimp only at h1 h2
    split
    ·exact ⟨fun y hy=>h1 y (List.mem_cons_of_mem _ hy),by dsimp only;omega⟩
    ·obtain ⟨h3,h4⟩:=ih (place o ⟨st.hold,x :: st.seen,st.asked⟩).2
     exact ⟨fun y hy=>h3 y (h1 y (List.mem_cons_of_mem _ hy)),by omega⟩
theorem place_grows {sets:List (List Int)}:∀f,GrowsP sets.flatten (placeM sets f)
 | 0=>fun s st=>⟨fun _ h=>h,by simp only[placeM];omega⟩
 | f+1=>fun s st=>by
  rw[placeM]
  obtain ⟨h1,h2⟩:=try_grows (place_grows (sets:=sets) f) s (sets[s]?.getD []) ⟨st.hold,st.seen,st.asked++[s]⟩ (fun x hx=>by
   rcases Nat.lt_or_ge s sets.length with e|e
   ·rw[List.getElem?_eq_getElem e,Option.getD_some] at hx
    exact List.mem_flatten.2 ⟨_,List.getElem_mem e,hx⟩
   ·rw[List.getElem?_eq_none e] at hx;cases hx)
  refine ⟨h1,?_⟩
  dsimp only at h2
  rw[List.length_append,List.length_singleton] at h2
  omega
theorem try_drop {place:Nat→HSt→Bool × HSt} {s:Nat} {xs:List Int} {i:Nat} (hi:i<xs.length) (st:HSt):tryM place s (xs.drop i) st=if xs[i]?.getD 0∈st.seen then tryM place s (xs.drop (i+1)) st else
   match st.hold (xs[i]?.getD 0) with
   | none=>(true,⟨updH st.hold (xs[i]?.getD 0) s,xs[i]?.getD 0 :: st.seen,st.asked⟩)
   | some o=>if (place o ⟨st.hold,xs[i]?.getD 0 :: st.seen,st.asked⟩).1=true
     then (true,⟨updH (place o ⟨st.hold,xs[i]?.getD 0 :: st.seen,st.asked⟩).2.hold (xs[i]?.getD 0) s,(place o ⟨st.hold,xs[i]?.getD 0 :: st.seen,st.asked⟩).2.seen,(place o ⟨st.hold,xs[i]?.getD 0 :: st.seen,st.asked⟩).2.asked⟩)
     else tryM place s (xs.drop (i+1)) (place o ⟨st.hold,xs[i]?.getD 0 :: st.seen,st.asked⟩).2:=by
 rw[List.drop_eq_getElem_cons hi,List.getElem?_eq_getElem hi,Option.getD_some,tryM]
 rfl
theorem try_end {place:Nat→HSt→Bool × HSt} {s:Nat} {xs:List Int} (st:HSt):tryM place s (xs.drop xs.length) st=(false,st):=by
 rw[List.drop_length,tryM]
end
section
open Go Go.RowKit Go.Maps
attribute [local go_sem] over_cell
attribute [local go_sem] Oper.semAt_some
theorem intKeyed:Keyed Tryz.prog 3:=int_keyed Tryz.underlying3
abbrev Nk:={x:Int // (Lit.int .i64 x).wf=true}
def kapN (x:Nk):Lit := .int .i64 x.1
theorem injN (x y:Nk) (h:kapN x=kapN y):x=y:=Subtype.ext (by unfold kapN at h;injection h)
theorem keyN (x:Nk):keyOf Tryz.prog 3 (.int .i64 x.1)=some (kapN x):=keyOf_int_mk Tryz.underlying3 x.2
theorem zeroBool4 (w:World):(zeroValue 4).run Tryz.prog w = .ok (.bool false) w:=by kernel_rfl
structure PB where
 (w0:World)
 (bA bS b6 b4 b8 sm hm:Nat)
 (aS:Option Addr)
 (nS cS:Nat)
 (sets:List (List Int))
structure PFix (p:PB):Prop where
 s:p.bS≠p.bA∧p.bS≠p.sm∧p.bS≠p.hm
 s6:p.b6≠p.bA∧p.b6≠p.sm∧p.b6≠p.hm
 s4:p.b4≠p.bA∧p.b4≠p.sm∧p.b4≠p.hm
 s8:p.b8≠p.bA∧p.b8≠p.sm∧p.b8≠p.hm
 m:p.sm≠p.hm∧p.sm≠p.bA∧p.hm≠p.bA
 lo:p.w0.heap.size≤p.bA∧p.w0.heap.size≤p.sm∧p.w0.heap.size≤p.hm
 rc:RC p.w0 p.aS p.nS p.sets
 few:p.sets.length≤32∧p.sets.flatten.length≤4096
 num:∀x,x∈p.sets.flatten→0≤x∧x≤999999999
def PB.Sp (p:PB) (k:Nat):Prop:=k=p.bA∨k=p.bS∨k=p.b6∨k=p.b4∨k=p.b8∨k=p.sm∨k=p.hm
def PB.caps (p:PB):Array Value:=#[.pointer (some ⟨p.bA,0,none⟩),.pointer (some ⟨p.bS,0,none⟩),.pointer (some ⟨p.b6,0,none⟩),.pointer (some ⟨p.b4,0,none⟩),.pointer (some ⟨p.b8,0,none⟩)]
def holdI (h:Int→Option Nat) (x:Nk):Option Int:=(h x.1).map fun (s:Nat)=>(s:Int)
def seenI (l:List Int) (x:Nk):Bool:=decide (x.1∈l)
def KeysIn (p:PB) (K:List Nk):Prop:=∀x,x∈K→x.1∈p.sets.flatten
theorem keys_few {p:PB} {K:List Nk} (hn:K.Nodup) (hk:KeysIn p K):K.length≤p.sets.flatten.length:=by
 have h1:(K.map fun x=>x.1).Nodup:=by
  unfold List.Nodup
  rw[List.pairwise_map]
  exact List.Pairwise.imp (fun {a b} hne e=>hne (Subtype.ext e)) hn
 have:=nodupI_le h1 (m:=p.sets.flatten) (fun y hy=>by
  obtain ⟨x,hx,rfl⟩:=List.mem_map.1 hy
  exact hk x hx)
 simpa using this
def PS (p:PB) (va:Value) (k:Nat):Prop:=k=p.bA∨k=p.sm∨k=p.hm∨va.ownBlock=some k
structure PlW (p:PB) (st:HSt) (va:Value) (W:World):Prop where
 qA:W.heap[p.bA]?=some (.cells #[va] 22 (0,0))
 qS:W.heap[p.bS]?=some (.cells #[.slice p.aS p.nS p.cS] 40 (0,0))
 q6:W.heap[p.b6]?=some (.cells #[.map (some p.sm)] 124 (0,0))
 q4:W.heap[p.b4]?=some (.cells #[.map (some p.hm)] 121 (0,0))
 q8:W.heap[p.b8]?=some (.cells #[.func (.func 163) #[] p.caps] 72 (0,0))
 base:Below p.w0.heap.size p.w0 W
 own:W.ownsRow p.w0.heap.size 3 1 va st.asked.length (st.asked.map fun (s:Nat)=>Value.int .i64 (s:Int))
 ap:∀k,va.ownBlock=some k→¬p.Sp k
 hold:∃K,KeysIn p K∧MapJ W Tryz.prog 3 3 kapN p.hm K (holdI st.hold)
 seen:∃K,KeysIn p K∧MapC W Tryz.prog 3 4 kapN p.sm K (seenI st.seen)
 hlt:∀x s,st.hold x=some s→s<p.sets.length
theorem PlW.splt {p:PB} {st:HSt} {va:Value} {W:World} (h:PlW p st va W) {k:Nat} (hk:p.Sp k):k<W.heap.size:=by
 obtain ⟨_,_,h1⟩:=h.hold
 obtain ⟨_,_,h2⟩:=h.seen
 rcases hk with e|e|e|e|e|e|e <;> subst e
 ·exact q_lt h.qA
 ·exact q_lt h.qS
 ·exact q_lt h.q6
 ·exact q_lt h.q4
 ·exact q_lt h.q8
 ·exact h2.lt
 ·exact h1.lt
theorem PlW.see {p:PB} (hp:PFix p) {st:HSt} {va:Value} {W w6:World} (h:PlW p st va W) {x:Int} (hx:x∈p.sets.flatten) {z:Nk} (hz:z.1=x) {K:List Nk} (hK:KeysIn p K) (hM:MapC w6 Tryz.prog 3 4 kapN p.sm (addK K z) (fun y=>if y=z then true else seenI st.seen y)) (hg:W.grownBy w6 (some p.sm)) :
  PlW p ⟨st.hold,x :: st.seen,st.asked⟩ va w6∧Stays (PS p va) W w6:=by
 have hs:Stays (fun k=>k=p.sm) W w6:=Stays.grown hg (fun k e=>by cases e;rfl)
 refine ⟨⟨hs.q h.qA (fun e=>hp.m.2.1 e.symm),hs.q h.qS hp.s.2.1,hs.q h.q6 hp.s6.2.1,hs.q h.q4 hp.s4.2.1,hs.q h.q8 hp.s8.2.1,hs.below' (h.base.size) h.base (fun k e=>by rw[e];exact hp.lo.2.1),owns_keep h.own (fun k e hl=>hs.block k hl (fun e2=>h.ap k e (.inr (.inr (.inr (.inr (.inr (.inl e2)))))))),h.ap,?_,?_,h.hlt⟩,hs.mono (fun k e => .inr (.inl e))⟩
 ·obtain ⟨K2,h1,h2⟩:=h.hold
  exact ⟨K2,h1,h2.block (hs.block _ h2.lt (fun e=>hp.m.1 e.symm))⟩
 ·refine ⟨addK K z,fun y hy=>?_,hM.same (fun y=>?_)⟩
  ·rcases mem_addK.1 hy with e|e
   ·rw[e,hz];exact hx
   ·exact hK y e
  ·unfold seenI
   by_cases e:y=z
   ·rw[if_pos e,e,hz];simp
   ·rw[if_neg e]
    have:y.1≠x:=fun e2=>e (Subtype.ext (e2.trans hz.symm))
    simp[this]
theorem PlW.give {p:PB} (hp:PFix p) {st:HSt} {va:Value} {W w6:World} (h:PlW p st va W) {x:Int} (hx:x∈p.sets.flatten) {z:Nk} (hz:z.1=x) {s:Nat} (hs9:s<p.sets.length) {K:List Nk} (hK:KeysIn p K) (hM:MapJ w6 Tryz.prog 3 3 kapN p.hm (addK K z) (fun y=>if y=z then some (s:Int) else holdI st.hold y)) (hg:W.grownBy w6 (some p.hm)) :
  PlW p ⟨updH st.hold x s,st.seen,st.asked⟩ va w6∧Stays (PS p va) W w6:=by
 have hs:Stays (fun k=>k=p.hm) W w6:=Stays.grown hg (fun k e=>by cases e;rfl)
 refine ⟨⟨hs.q h.qA (fun e=>hp.m.2.2 e.symm),hs.q h.qS hp.s.2.2,hs.q h.q6 hp.s6.2.2,hs.q h.q4 hp.s4.2.2,hs.q h.q8 hp.s8.2.2,hs.below' (h.base.size) h.base (fun k e=>by rw[e];exact hp.lo.2.2),owns_keep h.own (fun k e hl=>hs.block k hl (fun e2=>h.ap k e (.inr (.inr (.inr (.inr (.inr (.inr e2)))))))),h.ap,?_,?_,fun y t hy=>?_⟩,hs.mono (fun k e => .inr (.inr (.inl e)))⟩
 ·refine ⟨addK K z,fun y hy=>?_,hM.same (fun y=>?_)⟩
  ·rcases mem_addK.1 hy with e|e
   ·rw[e,hz];exact hx
   ·exact hK y e
  ·unfold holdI
   dsimp only
   by_cases e:y=z
   ·rw[if_pos e,e,hz,updH_same];rfl
   ·rw[if_neg e,updH_ne (fun e2=>e (Subtype.ext (e2.trans hz.symm)))]
 ·obtain ⟨K2,h1,h2⟩:=h.seen
  exact ⟨K2,h1,h2.block (hs.block _ h2.lt (fun e=>hp.m.1 e))⟩
 ·dsimp only at hy
  by_cases e:y=x
  ·rw[e,updH_same] at hy;cases hy;exact hs9
  ·rw[updH_ne e] at hy;exact h.hlt y t hy
theorem PlW.ask {p:PB} (hp:PFix p) {st:HSt} {va v7:Value} {W w7:World} {s:Nat} (h:PlW p st va W) (o:Obj) (h7:w7.ownsRow p.w0.heap.size 3 1 v7 (st.asked.length+1) ((st.asked.map fun (s:Nat)=>Value.int .i64 (s:Int))++[.int .i64 (s:Int)])) (hs7:Stays (fun k=>va.ownBlock=some k) (W.alloc o) w7) (hx:∀k,v7.ownBlock=some k→va.ownBlock=some k∨(W.alloc o).heap.size≤k) :
  PlW p ⟨st.hold,st.seen,st.asked++[s]⟩ v7 (w7.setCell ⟨p.bA,0,none⟩ v7)∧Stays (PS p va) W (w7.setCell ⟨p.bA,0,none⟩ v7)∧∀k,v7.ownBlock=some k→va.ownBlock=some k∨W.heap.size≤k:=by
 have hs8:Stays (fun k=>va.ownBlock=some k) W w7:=(Below.stays ((Below.refl _ W).alloc (Nat.le_refl _) o) _).trans hs7 (fun _ e => .inl e)
 have hne:∀{b},p.Sp b→¬va.ownBlock=some b:=fun hb e=>h.ap _ e hb
 have hne7:∀k,v7.ownBlock=some k→¬p.Sp k:=fun k e hk=>by
  rcases hx k e with e2|e2
  ·exact h.ap k e2 hk
  ·have:=h.splt hk
   rw[World.size_alloc] at e2;omega
 have hA:=hs8.q h.qA (hne (.inl rfl))
 have hst:Stays (PS p va) W (w7.setCell ⟨p.bA,0,none⟩ v7):=(hs8.mono (fun k e => .inr (.inr (.inr e)))).trans (Stays.setCell (S:=fun k=>k=p.bA) w7 (p:=⟨p.bA,0,none⟩) rfl v7) (fun k e => .inl (.inl e))
 have ho7:=ownsRow_setCell_other h7 (a:=⟨p.bA,0,none⟩) (fun e=>hne7 _ e (.inl rfl)) v7
 refine ⟨⟨q_set (i:=0) hA v7,q_other (i:=0) (hs8.q h.qS (hne (.inr (.inl rfl)))) hp.s.1 v7,q_other (i:=0) (hs8.q h.q6 (hne (.inr (.inr (.inl rfl))))) hp.s6.1 v7,q_other (i:=0) (hs8.q h.q4 (hne (.inr (.inr (.inr (.inl rfl)))))) hp.s4.1 v7,q_other (i:=0) (hs8.q h.q8 (hne (.inr (.inr (.inr (.inr (.inl rfl))))))) hp.s8.1 v7,?_,by rw[List.length_append,List.map_append];exact ho7,hne7,?_,?_,h.hlt⟩,hst,fun k e=>?_⟩
 ·refine hst.below' h.base.size h.base ?_
  rintro k (e|e|e|e)
  ·rw[e];exact hp.lo.1
  ·rw[e];exact hp.lo.2.1
  ·rw[e];exact hp.lo.2.2
  ·exact (h.own.lt k e).1
 ·obtain ⟨K,h1,h2⟩:=h.hold
  exact ⟨K,h1,h2.block ((Below.heap_setCell _ _ _ _ (fun e=>hp.m.2.2 e)).trans (hs8.block _ h2.lt (hne (.inr (.inr (.inr (.inr (.inr (.inr rfl)))))))))⟩
 ·obtain ⟨K,h1,h2⟩:=h.seen
  exact ⟨K,h1,h2.block ((Below.heap_setCell _ _ _ _ (fun e=>hp.m.2.1 e)).trans (hs8.block _ h2.lt (hne (.inr (.inr (.inr (.inr (.inr (.inl rfl)))))))))⟩
 ·rcases hx k e with e2|e2
  ·exact .inl e2
  ·exact .inr (by rw[World.size_alloc] at e2;omega)
def PlQ (p:PB) (va:Value) (W:World) (r:Bool × HSt) (e:Ending) (W':World):Prop :=
 e = .returned (.bool r.1)∧∃va',PlW p r.2 va' W'∧Stays (PS p va) W W'∧∀k,va'.ownBlock=some k→va.ownBlock=some k∨W.heap.size≤k
end
section
open Go Go.RowKit Go.Maps
attribute [local go_sem] over_cell
attribute [local go_sem] Oper.semAt_some
theorem mplace_c (p:PB) (hp:PFix p):∀(f s:Nat) (st:HSt) (va:Value) (W:World),s<p.sets.length→PlW p st va W→unseen p.sets.flatten st.seen<f→st.asked.length+unseen p.sets.flatten st.seen+1≤100000 →
  Calls Tryz.prog 163 #[.int .i64 (s:Int),.pointer (some ⟨p.bA,0,none⟩),.pointer (some ⟨p.bS,0,none⟩),.pointer (some ⟨p.b6,0,none⟩),.pointer (some ⟨p.b4,0,none⟩),.pointer (some ⟨p.b8,0,none⟩)] W (PlQ p va W (placeM p.sets f s st)):=by
 intro f
 induction f with
 | zero=>intro s st va W _ _ hf;exact absurd hf (by omega)
 | succ f ih =>
  intro s st va W hs h hf hbd
  obtain ⟨i0,hi,hz0,hz1,hz2⟩:=info_parts infoInt
  obtain ⟨av,cv,rfl⟩:=owns_shape h.own
  have HP:=Lib.hid hp
  have HH:=Lib.hid h
  have HIH:=Lib.hid ih
  have hn:=hp.rc.1.1
  obtain ⟨b,off,a',n',c',hpa,hbl,hc,hic,_⟩:=hp.rc.2 s (by omega)
  have hxs:∀x,x∈p.sets[s]?.getD []→x∈p.sets.flatten:=fun x hx=>by
   rw[List.getElem?_eq_getElem hs,Option.getD_some] at hx
   exact List.mem_flatten.2 ⟨_,List.getElem_mem hs,hx⟩
  have hPM:placeM p.sets (f+1) s st=tryM (placeM p.sets f) s (p.sets[s]?.getD []) ⟨st.hold,st.seen,st.asked++[s]⟩:=rfl
  obtain ⟨R,hR⟩:∃R,R=placeM p.sets (f+1) s st:=⟨_,rfl⟩
  rw[← hR]
  rw[hPM] at hR
  obtain ⟨xs,hxe⟩:∃xs,xs=p.sets[s]?.getD []:=⟨_,rfl⟩
  rw[← hxe] at hic hR hxs
  have hxl:=hic.len
  have hsm:=hic.small
  have HXS:=Lib.hid hxs
  have HRR:=Lib.hid hR
  have HIC:=Lib.hid hic
  have HC:=Lib.hid hc
  have hbs:=h.base.size
  have hsI:(s:Int)<(p.nS:Int):=by omega
  have HPA:=Lib.hid hpa
  obtain ⟨x0,xf,xl⟩:=c1_of h.qA
  clear hxe hc hic hR hPM hxs ih h hp
  go_enter Tryz.func163,Tryz.ntmps163
  go_wp2_with fail
  go_step3
  go_wp2_with (first|(at_builtin;refine wpList_append_ext _ rfl _ _ 22 rfl p.w0.heap.size 3 i0 (.int .i64 0) 8 Tryz.underlying22 hi hz0 hz1 hz2 rfl (.slice av st.asked.length cv) st.asked.length _ rfl (HH.out.own.alloc _) (by rw[World.size_alloc];omega) ⟨W.heap.size,0,none⟩ 1 1 [.int .i64 (s:Int)] rfl rfl (cell_one_new _ _ _) (by simp[Value.oneCell']) (by unfold maxLen;omega) (by omega) ?_;intro v7 w7 hown7 hst7 hx7;have hAK:=PlW.ask HP.out HH.out _ hown7 hst7 hx7.blk;obtain ⟨a7,c7,rfl⟩:=owns_shape hown7;have NX7:=hst7.q (keepq ((Below.refl _ W).alloc (Nat.le_refl _) _) HH.out.qA) (fun e=>HH.out.ap _ e (.inl rfl));obtain ⟨y0,yf,yl⟩:=c1_of NX7)|fail)
  obtain ⟨hPL,hST1,hBK1⟩:=hAK
  have hbd1:(st.asked++[s]).length+unseen p.sets.flatten st.seen≤100000:=by rw[List.length_append,List.length_singleton];omega
  have hW1:=hST1.size
  generalize (w7.setCell ⟨p.bA,0,none⟩ (.slice a7 (st.asked.length+1) c7))=W1 at hPL hST1 hBK1 hW1 ⊢
  go_step3
  obtain ⟨z0,zf,zl⟩:=c1_of hPL.qS
  rw[HPA.out] at z0
  have hbase:=hPL.base
  have u0:=(hbase.cell (p:=⟨b,off+s,none⟩) hbl).trans HC.out
  have ul:=Nat.lt_of_lt_of_le hbl hbase.size
  have HPL:=Lib.hid hPL
  have HST1:=Lib.hid hST1
  have HBK1:=Lib.hid hBK1
  clear hPL hST1 hBK1 hbase x0 xf xl y0 yf yl hown7 hst7 hx7 NX7
  go_wp2_with fail
  go_loopw [9,10,11,21] (fun _ _ _ s21 wr=>∃(i:Nat) (st1:HSt) (va1:Value),i≤n'∧s21 = .int .i64 (i:Int)∧Hid (PlW p st1 va1 wr)∧Hid (R=tryM (placeM p.sets f) s (xs.drop i) st1)∧unseen p.sets.flatten st1.seen<f+1∧st1.asked.length+unseen p.sets.flatten st1.seen≤100000∧Hid (Stays (PS p (.slice av st.asked.length cv)) W wr)∧Hid (∀k,va1.ownBlock=some k→(Value.slice av st.asked.length cv).ownBlock=some k∨W.heap.size≤k)) (fun _ _ _ s21 _=>n' - (intOf s21).toNat)
  case atStart=>exact ⟨0,_,_,by omega,rfl,HPL,by rw[List.drop_zero];exact HRR,hf,hbd1,HST1,HBK1⟩
  case round =>
   obtain ⟨i,st1,va1,hi1,rfl,hpl,hR1,hun,hbd2,hst,hblk⟩:=hrel
   clear z0 zf zl u0 ul HPL HST1 HBK1
   by_cases hlt:i<n'
   ·have hbase:=hpl.out.base
    obtain ⟨b1,off1,rfl,hbl1,hc1⟩:=(HIC.out.mono hbase).2 i hlt
    have hki:(i:Int)<(n':Int):=by omega
    have hxm:xs[i]?.getD 0∈xs:=by rw[List.getElem?_eq_getElem (by omega)];exact List.getElem_mem _
    have hxf:=HXS.out _ hxm
    have hxn:=HP.out.num _ hxf
    have HTD:=Lib.hid (try_drop (place:=placeM p.sets f) (s:=s) (xs:=xs) (i:=i) (by omega) st1)
    rw[← hR1.out] at HTD
    obtain ⟨x,hxe⟩:∃x,x=xs[i]?.getD 0:=⟨_,rfl⟩
    rw[← hxe] at hc1 hxf hxn HTD
    obtain ⟨z,hz⟩:∃z:Nk,z=⟨x,wf64 (by omega) (by omega)⟩:=⟨_,rfl⟩
    have hzx:z.1=x:=by rw[hz]
    have HKY:Hid (keyOf Tryz.prog 3 (.int .i64 x)=some (kapN z)):=by unfold Hid;rw[← hzx];exact keyN z
    have HZX:=Lib.hid hzx
    have HXF:=Lib.hid hxf
    obtain ⟨K6,hK6,hM6⟩:=hpl.out.seen
    have hk6:=keys_few hM6.nodup hK6
    have hfew:=HP.out.few
    obtain ⟨u0,uf,ul⟩:=c1_of hpl.out.q6
    have HM6:=Lib.hid hM6
    have HK6:=Lib.hid hK6
    clear hxe hz hzx hxf hxm hM6 hK6 hR1 hbase
    by_cases hin:x∈st1.seen
    ·have HSE:Hid (seenI st1.seen z=true):=by unfold Hid seenI;rw[HZX.out];exact decide_eq_true hin
     rw[if_pos hin] at HTD
     clear hin
     go_wp2_with (first|(refine wpList_lookB _ rfl _ _ 124 rfl 3 4 intKeyed Tryz.underlying124 Tryz.underlying4 (zeroBool4 _) kapN p.sm K6.length (seenI st1.seen) rfl HM6.out.toB _ z rfl HKY.out ?_;rw[HSE.out])|fail)
     go_roundw
     case rel=>exact ⟨i+1,st1,va1,by omega,by go_num,hpl,HTD,hun,hbd2,hst,hblk⟩
     case measure=>simp[intOf];omega
    ·have HSE:Hid (seenI st1.seen z=false):=by unfold Hid seenI;rw[HZX.out];exact decide_eq_false hin
     rw[if_neg hin] at HTD
     have hlt2:=unseen_cons HXF.out hin
     clear hin
     go_upto_region 7 with (first|(refine wpList_lookB _ rfl _ _ 124 rfl 3 4 intKeyed Tryz.underlying124 Tryz.underlying4 (zeroBool4 _) kapN p.sm K6.length (seenI st1.seen) rfl HM6.out.toB _ z rfl HKY.out ?_;rw[HSE.out])|(refine wpList_putC _ rfl _ _ _ 124 rfl 3 4 intKeyed Tryz.underlying124 Tryz.underlying4 kapN injN p.sm K6 (seenI st1.seen) rfl HM6.out (by unfold maxLen;omega) _ z true rfl rfl HKY.out ?_;intro w6 hM7 hg6)|fail)
     obtain ⟨hpl6,hs6⟩:=PlW.see HP.out hpl.out HXF.out HZX.out HK6.out hM7 hg6
     obtain ⟨K4,hK4,hM4⟩:=hpl6.hold
     have hk4:=keys_few hM4.nodup hK4
     have HM4:=Lib.hid hM4
     have HK4:=Lib.hid hK4
     have HPL6:=Lib.hid hpl6
     have hst6:Stays (PS p (.slice av st.asked.length cv)) W w6:=hst.out.trans hs6 (by
      rintro k (e|e|e|e)
      ·exact .inl (.inl e)
      ·exact .inl (.inr (.inl e))
      ·exact .inl (.inr (.inr (.inl e)))
      ·exact (hblk.out k e).imp (fun e2 => .inr (.inr (.inr e2))) id)
     have HST6:=Lib.hid hst6
     clear u0 uf ul hM7 hg6 hM4 hK4 hs6 hst6
     obtain ⟨u0,uf,ul⟩:=c1_of hpl6.q4
     obtain ⟨y0,yf,yl⟩:=c1_of hpl6.q8
     unfold PB.caps at y0
     cases hh:st1.hold x with
     | none =>
      have HLK:Hid (holdI st1.hold z=none):=by unfold Hid holdI;rw[HZX.out,hh];rfl
      rw[hh] at HTD
      clear hpl6 hh
      go_wp2_with (first|(refine wpList_lookI _ rfl _ _ 121 rfl 3 3 intKeyed Tryz.underlying121 Tryz.underlying3 (zeroInt _) kapN p.hm K4.length (holdI st1.hold) rfl HM4.out.toI _ z rfl HKY.out ?_;rw[HLK.out];dsimp only[Option.map,Option.getD,Option.isSome])|(refine wpList_putJ _ rfl _ _ _ 121 rfl 3 3 intKeyed Tryz.underlying121 Tryz.underlying3 kapN injN p.hm K4 (holdI st1.hold) rfl HM4.out (by unfold maxLen;omega) _ z (s:Int) rfl rfl HKY.out (wf64 (by omega) (by omega)) ?_;intro w8 hM8 hg8)|fail)
      obtain ⟨hpl8,hs8⟩:=PlW.give HP.out HPL6.out HXF.out HZX.out hs HK4.out hM8 hg8
      try rw[Exit.noGoto_ret]
      go_ret
      rw[HTD.out]
      refine ⟨rfl,va1,hpl8,HST6.out.trans hs8 ?_,hblk.out⟩
      rintro k (e|e|e|e)
      ·exact .inl (.inl e)
      ·exact .inl (.inr (.inl e))
      ·exact .inl (.inr (.inr (.inl e)))
      ·exact (hblk.out k e).imp (fun e2 => .inr (.inr (.inr e2))) id
     | some o =>
      have HLK:Hid (holdI st1.hold z=some (o:Int)):=by unfold Hid holdI;rw[HZX.out,hh];rfl
      rw[hh] at HTD
      dsimp only at HTD
      have ho:o<p.sets.length:=hpl6.hlt x o hh
      have HCL:=Lib.hid (HIH.out o ⟨st1.hold,x :: st1.seen,st1.asked⟩ va1 w6 ho hpl6 (by dsimp only;omega) (by dsimp only;omega))
      have hgr:=place_grows (sets:=p.sets) f o ⟨st1.hold,x :: st1.seen,st1.asked⟩
      dsimp only at hgr
      obtain ⟨P9,hP9⟩:∃P9,P9=placeM p.sets f o ⟨st1.hold,x :: st1.seen,st1.asked⟩:=⟨_,rfl⟩
      rw[← hP9] at HCL hgr HTD
      have hun9:=Nat.le_trans (unseen_mono (U:=p.sets.flatten) hgr.1) (Nat.le_of_lt hlt2)
      have hbd9:=hgr.2
      clear hpl6 hh hgr hP9 ho
      obtain ⟨r9,st9⟩:=P9
      dsimp only at hun9 hbd9 HTD
      have hsI2:(s:Int)<(p.nS:Int):=hsI
      cases r9 with
      | true =>
       rw[if_pos rfl] at HTD
       go_wp2_with (first|(refine wpList_lookI _ rfl _ _ 121 rfl 3 3 intKeyed Tryz.underlying121 Tryz.underlying3 (zeroInt _) kapN p.hm K4.length (holdI st1.hold) rfl HM4.out.toI _ z rfl HKY.out ?_;rw[HLK.out];dsimp only[Option.map,Option.getD,Option.isSome])|(go_at_call 163;refine HCL.out.mono ?_;rintro _ w9 ⟨rfl,va9,hpl9,hst9,hblk9⟩;dsimp only at hpl9;obtain ⟨K9,hK9,hM9⟩:=hpl9.hold;have hk9:=keys_few hM9.nodup hK9;have HM9:=Lib.hid hM9;clear u0 uf ul;obtain ⟨u0,uf,ul⟩:=c1_of hpl9.q4)|(refine wpList_putJ _ rfl _ _ _ 121 rfl 3 3 intKeyed Tryz.underlying121 Tryz.underlying3 kapN injN p.hm K9 (holdI st9.hold) rfl HM9.out (by unfold maxLen;omega) _ z (s:Int) rfl rfl HKY.out (wf64 (by omega) (by omega)) ?_;intro w8 hM8 hg8)|fail)
       obtain ⟨hpl8,hs8⟩:=PlW.give HP.out hpl9 HXF.out HZX.out hs hK9 hM8 hg8
       try rw[Exit.noGoto_ret]
       go_ret
       rw[HTD.out]
       have hw6:=HST6.out.size
       have hb9:∀k,va9.ownBlock=some k→(Value.slice av st.asked.length cv).ownBlock=some k∨W.heap.size≤k:=fun k e=>(hblk9 k e).elim (hblk.out k) (fun e2 => .inr (Nat.le_trans hw6 e2))
       refine ⟨rfl,va9,hpl8,(HST6.out.trans hst9 ?_).trans hs8 ?_,hb9⟩
       ·rintro k (e|e|e|e)
        ·exact .inl (.inl e)
        ·exact .inl (.inr (.inl e))
        ·exact .inl (.inr (.inr (.inl e)))
        ·exact (hblk.out k e).imp (fun e2 => .inr (.inr (.inr e2))) id
       ·rintro k (e|e|e|e)
        ·exact .inl (.inl e)
        ·exact .inl (.inr (.inl e))
        ·exact .inl (.inr (.inr (.inl e)))
        ·exact (hb9 k e).imp (fun e2 => .inr (.inr (.inr e2))) id
      | false =>
       rw[if_neg (by decide)] at HTD
       go_wp2_with (first|(refine wpList_lookI _ rfl _ _ 121 rfl 3 3 intKeyed Tryz.underlying121 Tryz.underlying3 (zeroInt _) kapN p.hm K4.length (holdI st1.hold) rfl HM4.out.toI _ z rfl HKY.out ?_;rw[HLK.out];dsimp only[Option.map,Option.getD,Option.isSome])|(go_at_call 163;refine HCL.out.mono ?_;rintro _ w9 ⟨rfl,va9,hpl9,hst9,hblk9⟩)|fail)
       have hw6:=HST6.out.size
       have hb9:∀k,va9.ownBlock=some k→(Value.slice av st.asked.length cv).ownBlock=some k∨W.heap.size≤k:=fun k e=>(hblk9 k e).elim (hblk.out k) (fun e2 => .inr (Nat.le_trans hw6 e2))
       go_roundw
       case rel =>
        refine ⟨i+1,st9,va9,by omega,by go_num,hpl9,HTD,by omega,by omega,HST6.out.trans hst9 ?_,hb9⟩
        rintro k (e|e|e|e)
        ·exact .inl (.inl e)
        ·exact .inl (.inr (.inl e))
        ·exact .inl (.inr (.inr (.inl e)))
        ·exact (hblk.out k e).imp (fun e2 => .inr (.inr (.inr e2))) id
       case measure=>simp[intOf];omega
   ·have e:i=n':=by omega
    subst e
    have HTE:Hid (R=(false,st1)):=by
     have:=hR1.out
     rw[← hxl,try_end] at this
     exact this
    go_wp2_with fail
    try rw[Exit.noGoto_ret]
    go_ret
    rw[HTE.out]
    exact ⟨rfl,va1,hpl.out,hst.out,hblk.out⟩
end
end Go.Proofs.YtmfpdakaeagdpaaGreat
