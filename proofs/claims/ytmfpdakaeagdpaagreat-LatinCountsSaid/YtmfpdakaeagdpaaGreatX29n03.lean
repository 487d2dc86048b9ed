/- Texts J11 to J141 of this proof, in one file. -/
import Derived.Test.YtmfpdakaeagdpaaGreatW01
import Derived.Test.YtmfpdakaeagdpaaGreatW02
import Derived.Test.YtmfpdakaeagdpaaGreatW03
import Derived.Test.YtmfpdakaeagdpaaGreatW04
import Derived.Test.YtmfpdakaeagdpaaGreatW05
import Derived.Test.YtmfpdakaeagdpaaGreatW06
import Derived.Test.YtmfpdakaeagdpaaGreatW07
import Derived.Test.YtmfpdakaeagdpaaGreatW08
import Derived.Test.YtmfpdakaeagdpaaGreatW09
import Derived.Test.YtmfpdakaeagdpaaGreatW10
import Derived.Test.YtmfpdakaeagdpaaGreatW11
import Derived.Test.YtmfpdakaeagdpaaGreatW12
import Derived.Test.YtmfpdakaeagdpaaGreatW13
import Derived.Test.YtmfpdakaeagdpaaGreatW14
import Derived.Test.YtmfpdakaeagdpaaGreatW15
import Derived.Test.YtmfpdakaeagdpaaGreatW16
import Derived.Test.YtmfpdakaeagdpaaGreatW17
import Derived.Test.YtmfpdakaeagdpaaGreatW18
import Derived.Test.YtmfpdakaeagdpaaGreatW19
import Derived.Test.YtmfpdakaeagdpaaGreatW20
import Derived.Test.YtmfpdakaeagdpaaGreatW21
import Derived.Test.YtmfpdakaeagdpaaGreatW22
import Derived.Test.YtmfpdakaeagdpaaGreatW23
import Derived.Test.YtmfpdakaeagdpaaGreatW24
import Derived.Test.YtmfpdakaeagdpaaGreatW25
import Derived.Test.YtmfpdakaeagdpaaGreatW26
import Derived.Test.YtmfpdakaeagdpaaGreatW27
import Derived.Test.YtmfpdakaeagdpaaGreatX29n01
import Derived.Test.YtmfpdakaeagdpaaGreatX29n02
import Derived.Below
import Derived.BigFrame
import Derived.BigQuiet
import Derived.Deep.CutBlock
import Derived.Deep.CutRange
import Derived.Deep.LoopGhost
import Derived.Deep.Quiet
import Derived.Deep.RegionHeld3
import Derived.DeepKeys4
import Derived.KernelRfl
import Derived.Laws.BitsAllLaws
import Derived.Laws.EntriesVeiled
import Derived.Lib.AppendZeros
import Derived.Lib.Hide
import Derived.Lib.SlKeysI
import Derived.Lib.SliceRun
import Derived.LoopIn
import Derived.LoopNIn
import Derived.Maps.AppendAt
import Derived.Maps.OwnIn
import Derived.Maps.OwnSet
import Derived.OneCell
import Derived.OrdersHeld
import Derived.OrdersIn
import Derived.OwnWalkIn
import Derived.RangeFuncBound
import Derived.RangeFuncBox
import Derived.RangeFuncCalls
import Derived.RangeFuncLeaves
import Derived.RangeFuncNested
import Derived.RangeFuncWrites
import Derived.Shelf.Abstract
import Derived.Shelf.SortM.Plain
import Derived.Still
import Derived.TacticsIn
import Derived.TacticsInMore
import Derived.Test.YtmfpdakaeagdpaaGreatProg
import Derived.WalkKit
import Derived.WalkLawsBesides
import Derived.WalkSpells
import Derived.WideKeyPair
namespace Go.Proofs.YtmfpdakaeagdpaaGreat
set_option maxRecDepth 100000
set_option maxHeartbeats 16000000
section
def refC (C limit:Nat):Nat→List Int→List (List Int)→List (List Int)
 | 0,cs,out=>out++[cs]
 | f+1,cs,out=>match openAt cs cs.length 0 with
  | none=>out++[cs]
  | some c=>(List.range C).foldl (fun acc (x:Nat)=>if acc.length<limit∧freeB C cs c (x:Int)=true then refC C limit f (cs.set c (x:Int)) acc else acc) out
theorem take_more {α:Type} {limit:Nat} {A B acc:List α} (h:acc=A.take limit) (hf:limit≤acc.length):acc=(A++B).take limit:=by
 have:limit≤A.length:=by rw[h,List.length_take] at hf;omega
 rw[List.take_append_of_le_length this,h]
theorem refC_eq {C limit:Nat}:∀{f:Nat} {cs:List Int} {out:List (List Int)},out.length<limit→refC C limit f cs out=(out++compR C f cs).take limit:=by
 intro f
 induction f with
 | zero =>
  intro cs out h
  rw[refC,compR,List.take_of_length_le (by rw[List.length_append,List.length_singleton];omega)]
 | succ f ih =>
  intro cs out h
  rw[refC,compR]
  cases openAt cs cs.length 0 with
  | none =>
   show out++[cs]=_
   rw[List.take_of_length_le (by rw[List.length_append,List.length_singleton];omega)]
  | some c =>
   show (List.range C).foldl (fun acc (x:Nat)=>if acc.length<limit∧freeB C cs c (x:Int)=true then refC C limit f (cs.set c (x:Int)) acc else acc) out=(out++(List.range C).flatMap fun (x:Nat)=>if freeB C cs c (x:Int)=true then compR C f (cs.set c (x:Int)) else []).take limit
   have hgo:∀(xs:List Nat) (acc A:List (List Int)),acc=A.take limit→(acc.length<limit→acc=A) →
     xs.foldl (fun acc (x:Nat)=>if acc.length<limit∧freeB C cs c (x:Int)=true then refC C limit f (cs.set c (x:Int)) acc else acc) acc=(A++xs.flatMap fun (x:Nat)=>if freeB C cs c (x:Int)=true then compR C f (cs.set c (x:Int)) else []).take limit:=by
    intro xs
    induction xs with
    | nil=>intro acc A h1 _;simp[h1]
    | cons x xs ihx =>
     intro acc A h1 h2
     rw[List.foldl_cons,List.flatMap_cons,← List.append_assoc]
     by_cases hx:freeB C cs c (x:Int)=true
     ·rw[if_pos hx]
      by_cases hl:acc.length<limit
      ·rw[if_pos ⟨hl,hx⟩]
       have h3:=h2 hl
       have h4:=ih (cs:=cs.set c (x:Int)) hl
       rw[h3] at h4
       rw[h3]
       refine ihx _ _ h4 (fun h5=>?_)
       rw[h4] at h5 ⊢
       rw[List.length_take] at h5
       exact List.take_of_length_le (by omega)
      ·rw[if_neg (fun e=>hl e.1)]
       exact ihx _ _ (take_more h1 (by omega)) (fun e=>absurd e hl)
     ·rw[if_neg hx,List.append_nil,if_neg (fun e=>hx e.2)]
      exact ihx _ _ h1 h2
   exact hgo (List.range C) out out (by rw[List.take_of_length_le (by omega)]) (fun _=>rfl)
end
section
open Go Go.RowKit
attribute [local go_sem] over_cell
attribute [local go_sem] Oper.semAt_some
theorem natInt_beq (a b:Nat):((a:Int)==(b:Int))=(a==b):=by
 rw[Bool.eq_iff_iff,beq_iff_eq,beq_iff_eq];exact Int.ofNat_inj
end
section
open Go Go.RowKit
attribute [local go_sem] over_cell
attribute [local go_sem] Oper.semAt_some
theorem lmade_v (r C:Int) (a:Option Addr) (n c:Nat) (cs:List Int) (er:Int) (r2 C2:Int) (a2:Option Addr) (n2 c2:Nat) (ds:List Int) (bad:Int) (w:World) (b:Bool) (hv:madeB r C cs er r2 C2 ds bad=b) (h:IC w a n cs) (h2:IC w a2 n2 ds) :
  Calls Tryz.prog 24 #[.agg #[.int .i64 r,.int .i64 C,.slice a n c],.int .i64 er,.agg #[.int .i64 r2,.int .i64 C2,.slice a2 n2 c2],.int .i64 bad] w fun e w'=>e = .returned (.bool b)∧Below w.heap.size w w':=by
 rw[← hv];exact lmade_c r C a n c cs er r2 C2 a2 n2 c2 ds bad w h h2
end
section
open Go Go.RowKit
attribute [local go_sem] over_cell
attribute [local go_sem] Oper.semAt_some
def freB (C:Nat) (cs:List Int) (c:Nat) (x:Int) (d:Nat):Bool:=!(d != c&&cs[d]?.getD 0==x&&lineB C d c)
theorem freB_all {C:Nat} {cs:List Int} {c:Nat} {x:Int} (h:∀d,d<cs.length→freB C cs c x d=true):freeB C cs c x=true:=by
 unfold freeB
 exact List.all_eq_true.2 fun d hd=>h d (List.mem_range.1 hd)
theorem freB_miss {C:Nat} {cs:List Int} {c d:Nat} {x:Int} (hd:d<cs.length) (h:freB C cs c x d=false):freeB C cs c x=false:=allr_miss hd h
theorem rfree_c (N:Nat) (r:Int) (a:Option Addr) (n ca:Nat) (cs:List Int) (c:Nat) (x:Int) (w:World) (h:IC w a n cs) (hN1:1≤N) (hc:c<n) (hn:n≤65536) :
  Calls Tryz.prog 159 #[.agg #[.int .i64 r,.int .i64 (N:Int),.slice a n ca],.int .i64 (c:Int),.int .i64 x] w fun e w'=>e = .returned (.bool (freeB N cs c x))∧Below w.heap.size w w':=by
 obtain ⟨R,hR⟩:∃R,R=freeB N cs c x:=⟨_,rfl⟩
 rw[← hR]
 have HR:=Lib.hid hR
 have HL:=Lib.hid h.len
 clear hR
 go_enter Tryz.func159,Tryz.ntmps159
 go_upto_region 1 with fail
 have fsz:(w.alloc (.cells #[.int .i64 r,.int .i64 (N:Int),.slice a n ca] 24)).heap.size=w.heap.size+1:=by simp only[World.size_alloc]
 have fB:Below w.heap.size w (w.alloc (.cells #[.int .i64 r,.int .i64 (N:Int),.slice a n ca] 24)):=(Below.refl _ _).alloc (Nat.le_refl _) _
 have fq0:(w.alloc (.cells #[.int .i64 r,.int .i64 (N:Int),.slice a n ca] 24)).heap[w.heap.size]?=some (.cells #[.int .i64 r,.int .i64 (N:Int),.slice a n ca] 24 (0,0)):=by have h:=World.alloc_heap_new w (.cells #[.int .i64 r,.int .i64 (N:Int),.slice a n ca] 24);exact h
 generalize (w.alloc (.cells #[.int .i64 r,.int .i64 (N:Int),.slice a n ca] 24))=W0 at fsz fB fq0 ⊢
 have HI:=Lib.hid (h.mono fB)
 have FB:=Lib.hid fB
 have Q0:=Lib.hid fq0
 clear fq0 fsz fB h
 have hne:(N:Int)≠0:=by omega
 have e1:(c:Int) / (N:Int)=((c / N:Nat):Int):=(Int.natCast_ediv _ _).symm
 have e2:(c:Int) % (N:Int)=((c % N:Nat):Int):=(Int.natCast_emod _ _).symm
 have d1:c / N≤c:=Nat.div_le_self _ _
 have HM:Hid (∀d,freB N cs c x d=!(((d:Int) != (c:Int))&&cs[d]?.getD 0==x&&((((d / N:Nat):Int)==((c / N:Nat):Int))||(((d % N:Nat):Int)==((c % N:Nat):Int))))):=fun d=>by
  rw[natInt_beq,natInt_beq,show ((d:Int) != (c:Int))=(d != c) by unfold bne;rw[natInt_beq]];rfl
 generalize c / N=q at e1 d1 HM
 generalize c % N=s at e2 HM
 go_wp2_with fail
 go_loopw [7] (fun s7 wr=>∃d:Nat,d≤n∧s7 = .int .i64 (d:Int)∧Hid (∀i,i<d→freB N cs c x i=true)∧Below W0.heap.size W0 wr) (fun s7 _=>n - (intOf s7).toNat)
 case atStart=>exact ⟨0,by omega,rfl,fun i hi=>absurd hi (by omega),Below.refl _ _⟩
 case round =>
  obtain ⟨d,hd,rfl,hp,hbr⟩:=hrel
  obtain ⟨x0,x1,x2,xl⟩:=c3_of (keepq hbr Q0.out)
  by_cases hlt:d<n
  ·have hdi:(d:Int)<(n:Int):=by omega
   obtain ⟨b,off,rfl,hb,hdl⟩:=HI.out.2 d hlt
   have g1:=((bcell hbr).1 _ _ hb).trans hdl
   have hl1:=Nat.lt_of_lt_of_le hb hbr.size
   have e3:(d:Int) / (N:Int)=((d / N:Nat):Int):=(Int.natCast_ediv _ _).symm
   have e4:(d:Int) % (N:Int)=((d % N:Nat):Int):=(Int.natCast_emod _ _).symm
   have d2:d / N≤d:=Nat.div_le_self _ _
   have HE:=Lib.hid (HM.out d)
   generalize d / N=q2 at e3 d2 HE
   generalize d % N=s2 at e4 HE
   generalize cs[d]?.getD 0=y at g1 HE
   obtain ⟨b1,t1⟩:∃b1,((d:Int) != (c:Int))=b1:=⟨_,rfl⟩
   obtain ⟨b2,t2⟩:∃b2,(y==x)=b2:=⟨_,rfl⟩
   obtain ⟨b3,t3⟩:∃b3,((q2:Int)==(q:Int))=b3:=⟨_,rfl⟩
   obtain ⟨b4,t4⟩:∃b4,((s2:Int)==(s:Int))=b4:=⟨_,rfl⟩
   rw[t1,t2,t3,t4] at HE
   clear hdl
   cases b1 with
   | false =>
    have HN:Hid (∀i,i<d+1→freB N cs c x i=true):=fun i hi=>by
     by_cases e:i=d
     ·rw[e,HE.out];rfl
     ·exact hp.out i (by omega)
    go_wp2_with fail
    refine wp_region_S (fun w'=>∃u,w'=over (wr) u) [] [(0,0),(0,1),(0,2),(0,3),(0,4),(0,5),(0,6),(0,7),(0,8),(0,9),(0,10),(0,11),(0,12),(0,13),(0,14),(0,15),(0,16),(0,17),(0,18),(0,19),(0,20),(0,21),(0,22),(0,23),(0,24),(0,25),(0,26),(0,27),(0,28),(0,29),(0,30),(0,31),(0,32),(0,33)] (by kernel_rfl) (by kernel_rfl) (by exact ⟨_,below_over (by repeat (first|assumption|exact Below.refl _ _|refine keep_drew ?_|refine keep_alloc ?_ _|refine keep_trans ?_ (by assumption)))⟩) ?_
    dsimp only[pickOps,nthOp]
    repeat (first|(refine wpS_skip rfl (fun K hK=>?_);go_big_quiet_op;refine hK _ ?_;clear hK K)|(refine wpS_quiet rfl rfl (fun K hK=>?_);go_big_quiet_op;refine hK _ ?_;clear hK K))
    refine wpS_end ?_
    go_wp2_with fail
    go_roundw
    case rel=>exact ⟨d+1,by omega,by go_num,HN,hbr.drew⟩
    case measure=>simp[intOf];omega
   | true =>
    cases b2 with
    | false =>
     have HN:Hid (∀i,i<d+1→freB N cs c x i=true):=fun i hi=>by
      by_cases e:i=d
      ·rw[e,HE.out];rfl
      ·exact hp.out i (by omega)
     go_wp2_with fail
     refine wp_region_S (fun w'=>∃u,w'=over (wr) u) [] [(0,0),(0,1),(0,2),(0,3),(0,4),(0,5),(0,6),(0,7),(0,8),(0,9),(0,10),(0,11),(0,12),(0,13),(0,14),(0,15),(0,16),(0,17),(0,18),(0,19),(0,20),(0,21),(0,22),(0,23),(0,24),(0,25),(0,26),(0,27),(0,28),(0,29),(0,30),(0,31),(0,32),(0,33)] (by kernel_rfl) (by kernel_rfl) (by exact ⟨_,below_over (by repeat (first|assumption|exact Below.refl _ _|refine keep_drew ?_|refine keep_alloc ?_ _|refine keep_trans ?_ (by assumption)))⟩) ?_
     dsimp only[pickOps,nthOp]
     repeat (first|(refine wpS_skip rfl (fun K hK=>?_);go_big_quiet_op;refine hK _ ?_;clear hK K)|(refine wpS_quiet rfl rfl (fun K hK=>?_);go_big_quiet_op;refine hK _ ?_;clear hK K))
     refine wpS_end ?_
     go_wp2_with fail
     go_roundw
     case rel=>exact ⟨d+1,by omega,by go_num,HN,hbr.drew⟩
     case measure=>simp[intOf];omega
    | true =>
     cases b3 with
     | true =>
      have HY:Hid (R=false):=by unfold Hid;rw[HR.out];exact freB_miss (by rw[HL.out];exact hlt) (by rw[HE.out];rfl)
      go_wp2_with fail
      refine wp_region_S (fun w'=>∃u,w'=over (wr) u) [] [(0,0),(0,1),(0,2),(0,3),(0,4),(0,5),(0,6),(0,7),(0,8),(0,9),(0,10),(0,11),(0,12),(0,13),(0,14),(0,15),(0,16),(0,17),(0,18),(0,19),(0,20),(0,21),(0,22),(0,23),(0,24),(0,25),(0,26),(0,27),(0,28),(0,29),(0,30),(0,31),(0,32),(0,33)] (by kernel_rfl) (by kernel_rfl) (by exact ⟨_,below_over (by repeat (first|assumption|exact Below.refl _ _|refine keep_drew ?_|refine keep_alloc ?_ _|refine keep_trans ?_ (by assumption)))⟩) ?_
      dsimp only[pickOps,nthOp]
      repeat (first|(refine wpS_skip rfl (fun K hK=>?_);go_big_quiet_op;refine hK _ ?_;clear hK K)|(refine wpS_quiet rfl rfl (fun K hK=>?_);go_big_quiet_op;refine hK _ ?_;clear hK K))
      refine wpS_end ?_
      go_wp2_with fail
      refine bodyPost_ret (v := .bool false) ?_ rfl ⟨by rw[HY.out],keep_trans FB.out hbr.drew⟩
      simp[results,Tryz.f159,go_sem]
     | false =>
      cases b4 with
      | true =>
       have HY:Hid (R=false):=by unfold Hid;rw[HR.out];exact freB_miss (by rw[HL.out];exact hlt) (by rw[HE.out];rfl)
       go_wp2_with fail
       refine wp_region_S (fun w'=>∃u,w'=over (wr) u) [] [(0,0),(0,1),(0,2),(0,3),(0,4),(0,5),(0,6),(0,7),(0,8),(0,9),(0,10),(0,11),(0,12),(0,13),(0,14),(0,15),(0,16),(0,17),(0,18),(0,19),(0,20),(0,21),(0,22),(0,23),(0,24),(0,25),(0,26),(0,27),(0,28),(0,29),(0,30),(0,31),(0,32),(0,33)] (by kernel_rfl) (by kernel_rfl) (by exact ⟨_,below_over (by repeat (first|assumption|exact Below.refl _ _|refine keep_drew ?_|refine keep_alloc ?_ _|refine keep_trans ?_ (by assumption)))⟩) ?_
       dsimp only[pickOps,nthOp]
       repeat (first|(refine wpS_skip rfl (fun K hK=>?_);go_big_quiet_op;refine hK _ ?_;clear hK K)|(refine wpS_quiet rfl rfl (fun K hK=>?_);go_big_quiet_op;refine hK _ ?_;clear hK K))
       refine wpS_end ?_
       go_wp2_with fail
       refine bodyPost_ret (v := .bool false) ?_ rfl ⟨by rw[HY.out],keep_trans FB.out hbr.drew⟩
       simp[results,Tryz.f159,go_sem]
      | false =>
       have HN:Hid (∀i,i<d+1→freB N cs c x i=true):=fun i hi=>by
        by_cases e:i=d
        ·rw[e,HE.out];rfl
        ·exact hp.out i (by omega)
       go_wp2_with fail
       refine wp_region_S (fun w'=>∃u,w'=over (wr) u) [] [(0,0),(0,1),(0,2),(0,3),(0,4),(0,5),(0,6),(0,7),(0,8),(0,9),(0,10),(0,11),(0,12),(0,13),(0,14),(0,15),(0,16),(0,17),(0,18),(0,19),(0,20),(0,21),(0,22),(0,23),(0,24),(0,25),(0,26),(0,27),(0,28),(0,29),(0,30),(0,31),(0,32),(0,33)] (by kernel_rfl) (by kernel_rfl) (by exact ⟨_,below_over (by repeat (first|assumption|exact Below.refl _ _|refine keep_drew ?_|refine keep_alloc ?_ _|refine keep_trans ?_ (by assumption)))⟩) ?_
       dsimp only[pickOps,nthOp]
       repeat (first|(refine wpS_skip rfl (fun K hK=>?_);go_big_quiet_op;refine hK _ ?_;clear hK K)|(refine wpS_quiet rfl rfl (fun K hK=>?_);go_big_quiet_op;refine hK _ ?_;clear hK K))
       refine wpS_end ?_
       go_wp2_with fail
       go_roundw
       case rel=>exact ⟨d+1,by omega,by go_num,HN,hbr.drew⟩
       case measure=>simp[intOf];omega
  ·have e:d=n:=by omega
   have hno:¬(d:Int)<(n:Int):=by omega
   have HY:Hid (R=true):=by unfold Hid;rw[HR.out];exact freB_all (fun i hi=>hp.out i (by rw[HL.out] at hi;omega))
   clear e
   go_wp2_with fail
   refine bodyPost_ret (v := .bool true) ?_ rfl ⟨by rw[HY.out],keep_trans FB.out hbr⟩
   simp[results,Tryz.f159,go_sem]
end
section
open Go Go.RowKit
attribute [local go_sem] over_cell
attribute [local go_sem] Oper.semAt_some
theorem rcopy_c (r C:Int) (a:Option Addr) (n c:Nat) (cs:List Int) (w:World) (h:IC w a n cs) (hn:n≤65536) :
  Calls Tryz.prog 44 #[.agg #[.int .i64 r,.int .i64 C,.slice a n c]] w fun e w'=>∃a2 c2,e = .returned (.agg #[.int .i64 r,.int .i64 C,.slice a2 n c2])∧w'.ownsRow (w.heap.size+2) 3 1 (.slice a2 n c2) n (cs.map (Value.int .i64))∧Below w.heap.size w w':=by
 obtain ⟨i0,hi,hz0,hz1,hz2⟩:=info_parts infoInt
 have HL:=Lib.hid h.len
 go_enter Tryz.func44,Tryz.ntmps44
 go_upto_region 1 with fail
 have fsz:((w.alloc (.cells #[.int .i64 r,.int .i64 C,.slice a n c] 24)).alloc (.cells #[.int .i64 0,.int .i64 0,.slice none 0 0] 24)).heap.size=w.heap.size+2:=by simp only[World.size_alloc] <;> omega
 have fB:Below w.heap.size w ((w.alloc (.cells #[.int .i64 r,.int .i64 C,.slice a n c] 24)).alloc (.cells #[.int .i64 0,.int .i64 0,.slice none 0 0] 24)):=((Below.refl _ _).alloc (Nat.le_refl _) _).alloc (by simp only[World.size_alloc];omega) _
 have fq0:((w.alloc (.cells #[.int .i64 r,.int .i64 C,.slice a n c] 24)).alloc (.cells #[.int .i64 0,.int .i64 0,.slice none 0 0] 24)).heap[w.heap.size]?=some (.cells #[.int .i64 r,.int .i64 C,.slice a n c] 24 (0,0)):=by have h:=World.alloc_heap_new w (.cells #[.int .i64 r,.int .i64 C,.slice a n c] 24);exact (Below.heap_alloc _ _ _ (by simp only[World.size_alloc];omega)).trans (h)
 have fq1:((w.alloc (.cells #[.int .i64 r,.int .i64 C,.slice a n c] 24)).alloc (.cells #[.int .i64 0,.int .i64 0,.slice none 0 0] 24)).heap[w.heap.size+1]?=some (.cells #[.int .i64 0,.int .i64 0,.slice none 0 0] 24 (0,0)):=by have h:=World.alloc_heap_new (w.alloc (.cells #[.int .i64 r,.int .i64 C,.slice a n c] 24)) (.cells #[.int .i64 0,.int .i64 0,.slice none 0 0] 24);simp only[World.size_alloc] at h;exact h
 generalize ((w.alloc (.cells #[.int .i64 r,.int .i64 C,.slice a n c] 24)).alloc (.cells #[.int .i64 0,.int .i64 0,.slice none 0 0] 24))=W0 at fsz fB fq0 fq1 ⊢
 have HSR:=Lib.hid ((h.mono fB).src)
 have FB:=Lib.hid fB
 have Q0:=Lib.hid fq0
 have Q1:=Lib.hid fq1
 have hs0:w.heap.size+2=W0.heap.size:=fsz.symm
 obtain ⟨x0,x1,x2,xl⟩:=c3_of fq0
 clear fq0 fq1 fsz fB h
 go_wp2_with (at_builtin;refine wpList_append_any _ rfl _ _ 22 rfl W0.heap.size 3 i0 (.int .i64 0) 8 Tryz.underlying22 hi hz0 hz1 hz2 rfl _ 0 [] rfl (World.ownsRow_made W0 #[] 0 (Nat.le_refl _) (by decide) rfl) (by rw[World.size_alloc];omega) a n c (cs.map (Value.int .i64)) rfl (by rw[List.length_map];exact HL.out) (HSR.out.mono ((Below.refl _ _).alloc (Nat.le_refl _) _)) (by intro u hu;obtain ⟨z,_,rfl⟩:=List.mem_map.1 hu;rfl) (by unfold maxLen;omega) (by omega) ?_;intro v' w1 hown hst hk;obtain ⟨a7,c7,rfl⟩:=owns_shape hown;have hB1:Below W0.heap.size W0 w1:=hst.below' (B:=W0.heap.size) (by rw[World.size_alloc];omega) (keep_alloc (Below.refl _ _) _) (fun k e=>by cases e;exact Nat.le_refl _);have HB1:=Lib.hid hB1;have q0:=keepq HB1.out Q0.out;have q1:=keepq HB1.out Q1.out;obtain ⟨y0,y1,y2,yl⟩:=c3_of q0;obtain ⟨yf0,yf1,yf2⟩:=f3_of q0;obtain ⟨z0,z1,z2,zl⟩:=c3_of q1;obtain ⟨zf0,zf1,zf2⟩:=f3_of q1)
 have hne:∀b,b<W0.heap.size→(Value.slice a7 n c7).ownBlock≠some b:=fun b hb e=>absurd (hown.lt b (by rw[Nat.zero_add];exact e)).1 (by omega)
 simp only[Nat.zero_add,List.nil_append] at hown
 have q1':=q_other (i:=2) q1 (show w.heap.size+1≠w.heap.size by omega) (.slice a7 n c7)
 have hown1:=ownsRow_setCell_other hown (a:=⟨w.heap.size,2,none⟩) (hne _ (by omega)) (.slice a7 n c7)
 have hb1:=(keep_trans FB.out HB1.out).setCell (p:=⟨w.heap.size,2,none⟩) (Nat.le_refl _) (.slice a7 n c7)
 have g3:=st3_q (x0 := .int .i64 r) (x1 := .int .i64 C) (x2 := .slice a7 n c7) q1'
 have hown3:=st3_own (x0 := .int .i64 r) (x1 := .int .i64 C) (x2 := .slice a7 n c7) hown1 (b:=w.heap.size+1) (hne _ (by omega))
 have hb3:=st3_below (x0 := .int .i64 r) (x1 := .int .i64 C) (x2 := .slice a7 n c7) (b:=w.heap.size+1) hb1 (by omega)
 obtain ⟨t0,t1,t2,tl⟩:=c3_of g3
 refine bodyPost_ret (v := .agg #[.int .i64 r,.int .i64 C,.slice a7 n c7]) ?_ rfl ⟨a7,c7,rfl,owns_base hown3 (by omega),hb3⟩
 simp[results,Tryz.f44,go_sem,t0,t1,t2]
end
section
open Go Go.RowKit
attribute [local go_sem] over_cell
attribute [local go_sem] Oper.semAt_some
theorem sameG_refl (r C:Int) (cs:List Int):sameG r C cs r C cs=true:=by unfold sameG;simp[sameB]
theorem lgrids_t (a:Option Addr) (n c N:Nat) (css:List (List Int)) (a2:Option Addr) (c2:Nat) (w:World) (h:GL w a n N css) (h2:GL w a2 n N css) (hn:n≤100000) :
  Calls Tryz.prog 29 #[.slice a n c,.slice a2 n c2] w fun e w'=>e = .returned (.bool true)∧Below w.heap.size w w':=by
 have H1:=Lib.hid h
 have H2:=Lib.hid h2
 have hne:((n:Int) != (n:Int))=false:=by simp
 clear h h2
 go_enter Tryz.func29,Tryz.ntmps29
 go_wp2_with fail
 go_loopw [5,13] (fun _ s13 wr=>∃k:Nat,k≤n∧s13 = .int .i64 (k:Int)∧Below w.heap.size w wr) (fun _ s13 _=>n - (intOf s13).toNat)
 case atStart=>exact ⟨0,by omega,rfl,Below.refl _ _⟩
 case round =>
  obtain ⟨k,hk,rfl,hbr⟩:=hrel
  by_cases hlt:k<n
  ·have hki:(k:Int)<(n:Int):=by omega
   obtain ⟨b,off,ax,cx,rfl,hl,h0,h1,h2,hi,hcx⟩:=H1.out.2 k hlt
   obtain ⟨b2,off2,ay,cy,rfl,hl2,h02,h12,h22,hi2,hcy⟩:=H2.out.2 k hlt
   have g0:wr.cell? ⟨b,off+k*3,none⟩=some (.int .i64 (N:Int)):=by rw[show off+k*3=off+3*k by omega];exact (hbr.cell (p:=⟨b,off+3*k,none⟩) hl).trans h0
   have g1:wr.cell? ⟨b,off+k*3+1,none⟩=some (.int .i64 (N:Int)):=by rw[show off+k*3+1=off+(3*k+1) by omega];exact (hbr.cell (p:=⟨b,off+(3*k+1),none⟩) hl).trans h1
   have g2:wr.cell? ⟨b,off+k*3+2,none⟩=some (.slice ax (css[k]?.getD []).length cx):=by rw[show off+k*3+2=off+(3*k+2) by omega];exact (hbr.cell (p:=⟨b,off+(3*k+2),none⟩) hl).trans h2
   have f0:wr.cell? ⟨b2,off2+k*3,none⟩=some (.int .i64 (N:Int)):=by rw[show off2+k*3=off2+3*k by omega];exact (hbr.cell (p:=⟨b2,off2+3*k,none⟩) hl2).trans h02
   have f1:wr.cell? ⟨b2,off2+k*3+1,none⟩=some (.int .i64 (N:Int)):=by rw[show off2+k*3+1=off2+(3*k+1) by omega];exact (hbr.cell (p:=⟨b2,off2+(3*k+1),none⟩) hl2).trans h12
   have f2:wr.cell? ⟨b2,off2+k*3+2,none⟩=some (.slice ay (css[k]?.getD []).length cy):=by rw[show off2+k*3+2=off2+(3*k+2) by omega];exact (hbr.cell (p:=⟨b2,off2+(3*k+2),none⟩) hl2).trans h22
   have l1:=Nat.lt_of_lt_of_le hl hbr.size
   have l2:=Nat.lt_of_lt_of_le hl2 hbr.size
   generalize css[k]?.getD []=X at g2 f2 hi hi2
   have HS:=Lib.hid (fun W (hb:Below wr.heap.size wr W)=>rsame_c (N:Int) (N:Int) ax X.length cx X (N:Int) (N:Int) ay X.length cy X W (hi.mono (keep_trans hbr hb)) (hi2.mono (keep_trans hbr hb)))
   rw[sameG_refl] at HS
   clear h0 h1 h2 h02 h12 h22 hi hi2
   go_wp2_with fail
   refine wp_region_S (fun w'=>∃u,w'=over (wr) u) [] [(0,0),(0,1),(0,2),(0,3),(0,4),(0,5),(0,6),(0,7),(1,8),(0,9)] (by kernel_rfl) (by kernel_rfl) (by exact ⟨_,below_over (by repeat (first|assumption|exact Below.refl _ _|refine keep_drew ?_|refine keep_alloc ?_ _|refine keep_trans ?_ (by assumption)))⟩) ?_
   dsimp only[pickOps,nthOp]
   repeat (first|(refine wpS_skip rfl (fun K hK=>?_);go_big_quiet_op;refine hK _ ?_;clear hK K)|(refine wpS_quiet rfl rfl (fun K hK=>?_);go_big_quiet_op;refine hK _ ?_;clear hK K)|(refine wpS_loud ?_;go_wp2_with (first|(go_at_call 43;refine (HS.out _ (by (repeat (first|assumption|exact Below.refl _ _|refine keep_drew ?_|refine keep_alloc ?_ _|refine keep_trans ?_ (by assumption))))).mono ?_;rintro _ w5 ⟨rfl,hb5⟩)|fail);refine ⟨?_,?_⟩;focus (exact ⟨_,below_over (by repeat (first|assumption|exact Below.refl _ _|refine keep_drew ?_|refine keep_alloc ?_ _|refine keep_trans ?_ (by assumption)))⟩)))
   refine wpS_end ?_
   go_wp2_with fail
   go_roundw
   case rel=>exact ⟨k+1,by omega,by go_num,keep_trans hbr (show Below wr.heap.size wr w5 by (repeat (first|assumption|exact Below.refl _ _|refine keep_drew ?_|refine keep_alloc ?_ _|refine keep_trans ?_ (by assumption))))⟩
   case measure=>simp[intOf];omega
  ·have hno:¬(k:Int)<(n:Int):=by omega
   go_wp2_with fail
   refine bodyPost_ret (v := .bool true) ?_ rfl ⟨rfl,hbr⟩
   simp[results,Tryz.f29,go_sem]
end
section
open Go Go.RowKit
attribute [local go_sem] over_cell
attribute [local go_sem] Oper.semAt_some
theorem openAt_found {cs:List Int} {k:Nat} (hk:k<cs.length) (h:∀i,i<k→0≤cs[i]?.getD 0) (h0:cs[k]?.getD 0<0):openAt cs cs.length 0=some k:=by
 rw[openAt_skip (j:=k) (fun i _ hi=>h i (by omega)) (by omega),Nat.zero_add,show cs.length - k=(cs.length - k - 1)+1 by omega]
 unfold openAt
 rw[if_neg (by omega)]
theorem openAt_full {cs:List Int} (h:∀i,i<cs.length→0≤cs[i]?.getD 0):openAt cs cs.length 0=none:=by
 rw[openAt_skip (j:=cs.length) (fun i _ hi=>h i (by omega)) (by omega),Nat.sub_self]
 rfl
theorem refC_full {C lim f:Nat} {cs:List Int} {out:List (List Int)} (h:∀i,i<cs.length→0≤cs[i]?.getD 0):refC C lim f cs out=out++[cs]:=by
 cases f with
 | zero=>rfl
 | succ f=>unfold refC;rw[openAt_full h]
def refTo (C lim f:Nat) (cs:List Int) (c:Nat) (out:List (List Int)) (x:Nat):List (List Int) :=
 (List.range x).foldl (fun acc (x:Nat)=>if acc.length<lim∧freeB C cs c (x:Int)=true then refC C lim f (cs.set c (x:Int)) acc else acc) out
theorem refTo_succ (C lim f:Nat) (cs:List Int) (c:Nat) (out:List (List Int)) (x:Nat):refTo C lim f cs c out (x+1)=if (refTo C lim f cs c out x).length<lim∧freeB C cs c (x:Int)=true then refC C lim f (cs.set c (x:Int)) (refTo C lim f cs c out x) else refTo C lim f cs c out x:=by
 unfold refTo
 rw[List.range_succ,List.foldl_append]
 rfl
theorem refC_open {C lim f:Nat} {cs:List Int} {out:List (List Int)} {c:Nat} (h:openAt cs cs.length 0=some c):refC C lim (f+1) cs out=refTo C lim f cs c out C:=by
 rw[refC,h];rfl
theorem refTo_stop {C lim f:Nat} {cs:List Int} {c:Nat} {out:List (List Int)} {x:Nat} (h:¬(refTo C lim f cs c out x).length<lim):∀m,refTo C lim f cs c out (x+m)=refTo C lim f cs c out x
 | 0=>rfl
 | m+1=>by rw[show x+(m+1)=(x+m)+1 by omega,refTo_succ,refTo_stop h m,if_neg (fun e=>h e.1)]
def CplE (N lim L f:Nat) (cs:List Int) (v:Value) (pre:List (Value × List Int)) (W:World) (e:Ending) (W':World):Prop :=
 ∃v' new,e = .returned v'∧GridsI N W' noB L v' (pre++new)∧(pre++new).map Prod.snd=refC N lim f cs (pre.map Prod.snd)∧Stays (fun k=>v.ownBlock=some k) W W'∧(∀k,v'.ownBlock=some k→v.ownBlock=some k∨W.heap.size≤k)
end
section
theorem kGrp_iff {n:Nat} {cs:List Int} (hn:1≤n):kGrp n cs=true↔∀x y z,x<n→y<n→z<n→nat (reduL (-1) n cs) (nat (reduL (-1) n cs) (x*n+y)*n+z)=nat (reduL (-1) n cs) (x*n+nat (reduL (-1) n cs) (y*n+z)):=by
 unfold kGrp
 rw[List.all_eq_true]
 constructor
 ·intro h x y z hx hy hz
  have hxy:=gcell_lt hx hy
  have h1:=h ((x*n+y)*n+z) (List.mem_range.2 (by
   have:=Nat.mul_le_mul_right n (show x*n+y+1≤n*n by omega)
   rw[Nat.add_mul,Nat.one_mul] at this
   omega))
  rw[(gcell_div hz).1,(gcell_div hz).2,(gcell_div hy).1,(gcell_div hy).2,beq_iff_eq] at h1
  exact h1
 ·intro h k hk
  rw[List.mem_range] at hk
  have h1:k / n<n*n:=Nat.div_lt_of_lt_mul (by rw[Nat.mul_comm n (n*n)];exact hk)
  have h2:k / n / n<n:=Nat.div_lt_of_lt_mul h1
  have:=h (k / n / n) (k / n % n) (k % n) h2 (Nat.mod_lt _ (by omega)) (Nat.mod_lt _ (by omega))
  rw[beq_iff_eq]
  exact this
def proC (N M:Nat) (cs ds:List Int):List Int:=madeTo (N*M) (proS N M cs ds) (N*M*(N*M))
theorem proC_len (N M:Nat) (cs ds:List Int):(proC N M cs ds).length=N*M*(N*M):=madeTo_len _ _ _
end
section
open Go Go.RowKit
attribute [local go_sem] over_cell
attribute [local go_sem] Oper.semAt_some
theorem rhas4_c (a:Option Addr) (n c:Nat) (xs:List Int) (x:Int) (w:World) (h:IC w a n xs) :
  Calls Tryz.prog 111 #[.slice a n c,.int .i64 x] w fun e w'=>e = .returned (.bool (hasB xs x))∧w=w':=by
 have hm:=h.small
 go_enter Tryz.func111,Tryz.ntmps111
 go_wp2
 go_loop [5] (fun i=>∃k:Nat,k≤n∧i = .int .i64 k∧Hid (¬x∈xs.take k)) (fun i=>n - (intOf i).toNat)
 case atStart=>exact ⟨0,by omega,rfl,by simp[Hid]⟩
 case round =>
  obtain ⟨k,hk,rfl,hn⟩:=hrel
  by_cases hlt:k<n
  ·obtain ⟨b,off,rfl,hb,hc⟩:=h.2 k hlt
   go_wp2
   ·have he:(xs[k]?.getD 0==x)=true:=by assumption
    go_ret
    exact ⟨ret_bool (hasB_of_mem (by rw[h.len];exact hlt) (by simpa using he)).symm,rfl⟩
   ·have he:(xs[k]?.getD 0==x)=false:=by assumption
    go_round
    case rel =>
     refine ⟨k+1,by omega,by go_num,?_⟩
     unfold Hid
     rw[take_snoc xs 0 k (by rw[h.len];exact hlt)]
     simp only[List.mem_append,List.mem_singleton,not_or]
     exact ⟨hn,fun e=>by rw[← e] at he;simp at he⟩
    case measure=>simp[intOf];omega
  ·go_wp2
   go_ret
   refine ⟨ret_bool ?_,rfl⟩
   have:xs.take k=xs:=List.take_of_length_le (by rw[h.len];omega)
   have hn':¬x∈xs:=by have:=hn.out;simp_all
   simp[hasB,hn']
end
section
open Go Go.RowKit
attribute [local go_sem] over_cell
attribute [local go_sem] Oper.semAt_some
theorem OI.stays {S:Nat→Prop} {W W':World} {B g n cap:Nat} {xs:List Int} (h:OI W B g n cap xs) (hs:Stays S W W') (hn:¬S g):OI W' B g n cap xs :=
 ⟨h.len,owns_keep h.own (fun k e hl=>hs.block k hl (by cases e;exact hn))⟩
def CplS (N nn lim f:Nat):Prop:=∀(L g cap:Nat) (cs:List Int) (v:Value) (pre:List (Value × List Int)) (w:World),opens cs≤f→OI w L g nn cap cs→v.ownBlock≠some g→GridsI N w noB L v pre→pre.length<lim →
 Calls Tryz.prog 107 #[.agg #[.int .i64 (N:Int),.int .i64 (N:Int),.slice (some ⟨g,0,none⟩) nn cap],.int .i64 (lim:Int),v] w (CplE N lim L f cs v pre w)
theorem rcompl_step (N nn lim f:Nat) (hN1:1≤N) (hN2:N≤16) (hnn:nn≤256) (hlim:lim≤256) (IH:∀f',f=f'+1→CplS N nn lim f'):CplS N nn lim f:=by
 intro L g cap cs v pre w hop hO hvg hG hpl
 obtain ⟨i0,hi,hz0,hz1,hz2⟩:=info_parts infoGrid
 obtain ⟨av,cv,hv⟩:=owns_shape3 hG.1
 subst hv
 have HIH:=Lib.hid IH
 have HOP:=Lib.hid hop
 have HO:=Lib.hid hO
 have HVG:=Lib.hid hvg
 have HG:=Lib.hid hG
 have hLg:=hO.blk.1
 have hgw:=hO.blk.2
 have HCL:Hid (cs.length=nn):=hO.len
 clear IH hop hO hvg hG
 go_enter Tryz.func107,Tryz.ntmps107
 go_upto_region 1 with fail
 have fB:Below w.heap.size w (w.alloc (.cells #[.int .i64 (N:Int),.int .i64 (N:Int),.slice (some ⟨g,0,none⟩) nn cap] 24)):=(Below.refl _ _).alloc (Nat.le_refl _) _
 have FQ:Hid ((w.alloc (.cells #[.int .i64 (N:Int),.int .i64 (N:Int),.slice (some ⟨g,0,none⟩) nn cap] 24)).heap[w.heap.size]?=some (.cells #[.int .i64 (N:Int),.int .i64 (N:Int),.slice (some ⟨g,0,none⟩) nn cap] 24 (0,0))):=World.alloc_heap_new _ _
 generalize (w.alloc (.cells #[.int .i64 (N:Int),.int .i64 (N:Int),.slice (some ⟨g,0,none⟩) nn cap] 24))=W0 at fB FQ ⊢
 obtain ⟨x0,x1,x2,xl⟩:=c3_of FQ.out
 have HFB:=Lib.hid fB
 have HO0:=Lib.hid (HO.out.keep fB)
 have HG0:=Lib.hid (HG.out.below fB)
 have HVL:Hid (∀k,(Value.slice av pre.length cv).ownBlock=some k→k<w.heap.size):=fun k e=>(HG.out.1.lt k e).2
 have hws:w.heap.size<W0.heap.size:=q_lt FQ.out
 clear fB
 go_wp2_with fail
 go_loopw [2,7,8,9] (fun s2 s7 _ _ wr=>∃c:Nat,c≤nn∧s7 = .int .i64 (c:Int)∧s2 = .slice av pre.length cv∧Hid (∀i,i<c→0≤cs[i]?.getD 0)∧wr=W0) (fun _ s7 _ _ _=>nn - (intOf s7).toNat)
 case atStart=>exact ⟨0,by omega,rfl,rfl,fun i hi=>absurd hi (by omega),rfl⟩
 case round =>
  obtain ⟨c,hc,rfl,rfl,hfull,hwr⟩:=hrel
  replace hwr:=hwr.symm
  subst hwr
  by_cases hlt:c<nn
  ·have hci:(c:Int)<(nn:Int):=by omega
   obtain ⟨hcell,_,hgl⟩:=HO0.out.at hlt
   by_cases h0:0≤cs[c]?.getD 0
   ·have HN:Hid (∀i,i<c+1→0≤cs[i]?.getD 0):=fun i hi=>by
     by_cases e:i=c
     ·rw[e];exact h0
     ·exact hfull.out i (by omega)
    generalize cs[c]?.getD 0=y at hcell h0
    have hd:decide (0≤y)=true:=decide_eq_true h0
    go_wp2_with fail
    go_roundw
    case rel=>exact ⟨c+1,by omega,by go_num,rfl,HN,trivial⟩
    case measure=>simp[intOf];omega
   ·have hf0:0<opens cs:=opens_pos (by rw[HCL.out];exact hlt) (by omega)
    obtain ⟨f',rfl⟩:∃f',f=f'+1:=⟨f - 1,by have:=HOP.out;omega⟩
    have HR:Hid (refC N lim (f'+1) cs (pre.map Prod.snd)=refTo N lim f' cs c (pre.map Prod.snd) N):=refC_open (openAt_found (by rw[HCL.out];exact hlt) hfull.out (by omega))
    have HSET:Hid (∀x:Nat,opens (cs.set c (x:Int))≤f'):=fun x=>by
     have:=opens_set (cs:=cs) (k:=c) (x:=(x:Int)) (by rw[HCL.out];exact hlt) (by omega) (by omega)
     have:=HOP.out
     omega
    have HREC:=Lib.hid (HIH.out f' rfl)
    have h0':¬0≤cs[c]?.getD 0:=h0
    generalize cs[c]?.getD 0=y at hcell h0'
    have hd:decide (0≤y)=false:=decide_eq_false h0'
    clear HIH HOP h0 hf0
    go_wp2_with fail
    go_loopw [2,8,9] (fun s2 s8 _ wr2=>∃(x:Nat) (av2:Option Addr) (cv2:Nat) (new:List (Value × List Int)),x≤N∧s8 = .int .i64 (x:Int)∧s2 = .slice av2 (pre++new).length cv2∧Hid (GridsI N wr2 noB L (.slice av2 (pre++new).length cv2) (pre++new))∧Hid ((pre++new).map Prod.snd=refTo N lim f' cs c (pre.map Prod.snd) x)∧Hid (Stays (fun k=>(Value.slice av pre.length cv).ownBlock=some k) W0 wr2)∧Hid (∀k,(Value.slice av2 (pre++new).length cv2).ownBlock=some k→(Value.slice av pre.length cv).ownBlock=some k∨W0.heap.size≤k)) (fun _ s8 _ _=>N - (intOf s8).toNat)
    case atStart=>exact ⟨0,av,cv,[],by omega,rfl,by rw[List.append_nil],by rw[List.append_nil];exact HG0,by rw[List.append_nil];rfl,Stays.refl _ _,fun k e => .inl (by rw[List.append_nil] at e;exact e)⟩
    case round =>
     obtain ⟨x,av2,cv2,new,hx,rfl,rfl,hG2,hM2,hS2,hK2⟩:=hrel
     have hq2:=hS2.out.q FQ.out (fun e=>absurd (HVL.out _ e) (by omega))
     obtain ⟨x0,x1,x2,xl⟩:=c3_of hq2
     have HQ2:=Lib.hid hq2
     have hO2:=HO0.out.stays hS2.out (fun e=>HVG.out e)
     have HO2:=Lib.hid hO2
     have hs2:=hS2.out.size
     generalize hl9:(pre++new).length=ln at *
     have HLN:=Lib.hid hl9
     clear hl9
     by_cases hx2:x<N
     ·have hxi:(x:Int)<(N:Int):=by omega
      by_cases hl:ln<lim
      ·have hli:(ln:Int)<(lim:Int):=by omega
       have HF:=Lib.hid (fun W (hb:Below wr.heap.size wr W)=>rfree_c N (N:Int) (some ⟨g,0,none⟩) nn cap cs c (x:Int) W ((hO2.keep hb).ic (by omega)) hN1 hlt (by omega))
       have HS:=Lib.hid (refTo_succ N lim f' cs c (pre.map Prod.snd) x)
       rw[← hM2.out,List.length_map,HLN.out] at HS
       generalize freeB N cs c (x:Int)=fb at HF HS
       cases fb with
       | false =>
        have HS2:Hid (refTo N lim f' cs c (pre.map Prod.snd) (x+1)=(pre++new).map Prod.snd):=by
         unfold Hid
         rw[HS.out,if_neg (fun e=>by cases e.2)]
        clear HS hO2
        go_wp2_with (first|(go_at_call 159;(with_reducible refine (HF.out _ (Below.refl _ _)).mono ?_);rintro _ w5 ⟨rfl,hb5⟩)|fail)
        go_roundw
        case rel=>exact ⟨x+1,av2,cv2,new,by omega,by go_num,by rw[HLN.out],by rw[HLN.out];exact hG2.out.below hb5,HS2.out.symm,hS2.out.trans (Below.stays hb5 _) (fun k e => .inl e),by rw[HLN.out];exact hK2⟩
        case measure=>simp[intOf];omega
       | true =>
        have HS2:Hid (refTo N lim f' cs c (pre.map Prod.snd) (x+1)=refC N lim f' (cs.set c (x:Int)) ((pre++new).map Prod.snd)):=by
         unfold Hid
         rw[HS.out,if_pos ⟨hl,rfl⟩]
        have HCP:=Lib.hid (fun W (hb:Below wr.heap.size wr W)=>rcopy_c (N:Int) (N:Int) (some ⟨g,0,none⟩) nn cap cs W ((hO2.keep hb).ic (by omega)) (by omega))
        clear HS hO2
        go_upto_region 10 with (first|(go_at_call 159;(with_reducible refine (HF.out _ (Below.refl _ _)).mono ?_);rintro _ w5 ⟨rfl,hb5⟩;have q5:=keepq hb5 HQ2.out;obtain ⟨y0,y1,y2,yl⟩:=c3_of q5)|(go_at_call 44;(with_reducible refine (HCP.out _ hb5).mono ?_);rintro _ w6 ⟨a6,c6,rfl,hown6,hb6⟩)|fail)
        have ksz:(w6.alloc (.cells #[.int .i64 (N:Int),.int .i64 (N:Int),.slice a6 nn c6] 24)).heap.size=w6.heap.size+1:=by simp only[World.size_alloc]
        have kB:Below w6.heap.size w6 (w6.alloc (.cells #[.int .i64 (N:Int),.int .i64 (N:Int),.slice a6 nn c6] 24)):=(Below.refl _ _).alloc (Nat.le_refl _) _
        have kq0:(w6.alloc (.cells #[.int .i64 (N:Int),.int .i64 (N:Int),.slice a6 nn c6] 24)).heap[w6.heap.size]?=some (.cells #[.int .i64 (N:Int),.int .i64 (N:Int),.slice a6 nn c6] 24 (0,0)):=by have h:=World.alloc_heap_new w6 (.cells #[.int .i64 (N:Int),.int .i64 (N:Int),.slice a6 nn c6] 24);exact h
        generalize (w6.alloc (.cells #[.int .i64 (N:Int),.int .i64 (N:Int),.slice a6 nn c6] 24))=W7 at ksz kB kq0 ⊢
        obtain ⟨g6,rfl,hO6⟩:=OI.of hown6 (by omega)
        have hO7:=hO6.keep kB
        have hB7:Below wr.heap.size wr W7:=keep_trans (keep_trans hb5 hb6) kB
        have hs65:=hb6.size
        have hs5:=hb5.size
        have hg6:wr.heap.size≤g6∧g6<w6.heap.size:=⟨by have:=hO6.blk.1;omega,hO6.blk.2⟩
        have HB7:=Lib.hid hB7
        have hs7:=hB7.size
        obtain ⟨_,hf7,hl7⟩:=hO7.at hlt
        obtain ⟨hc7,_,_⟩:=hO7.at hlt
        obtain ⟨z0,z1,z2,zl⟩:=c3_of kq0
        have KQ:=Lib.hid kq0
        have hQ8:=q_other (i:=c) kq0 (show w6.heap.size≠g6 by omega) (.int .i64 (x:Int))
        have hB8:=hB7.setCell (p:=⟨g6,c,none⟩) hg6.1 (.int .i64 (x:Int))
        have hO8:=(hO7.set c (x:Int)).base (B':=L) (by omega)
        have hG8:=hG2.out.below hB8
        have hCA:=HREC.out L g6 c6 (cs.set c (x:Int)) (.slice av2 ln cv2) (pre++new) _ (HSET.out x) hO8 (fun e=>by have:=(hG2.out.1.lt g6 e).2;omega) hG8 (by rw[HLN.out];exact hl)
        have HQ8:=Lib.hid hQ8
        have HB8:=Lib.hid hB8
        have HCA:=Lib.hid hCA
        have HG8:=Lib.hid hG8
        clear hQ8 hB8 hO8 hG8 hCA kq0 ksz kB hB7 hO6 hO7 hown6 hb5 hb6 q5
        go_upto_region 11 with fail
        obtain ⟨t0,t1,t2,tl⟩:=c3_of HQ8.out
        have hs8:=HB8.out.size
        generalize (W7.setCell ⟨g6,c,none⟩ (.int .i64 (x:Int)))=W8 at *
        go_wp2_with (first|(go_at_call 107;(with_reducible refine HCA.out.mono ?_);rintro _ w9 ⟨v9,new9,rfl,hG9,hM9,hS9,hK9⟩)|fail)
        obtain ⟨av9,cv9,rfl⟩:=owns_shape3 hG9.1
        go_roundw
        case rel=>exact ⟨x+1,av9,cv9,new++new9,by omega,by go_num,by rw[List.append_assoc],by rw[← List.append_assoc];exact hG9,by rw[← List.append_assoc,HS2.out];exact hM9,(hS2.out.trans (Below.stays HB8.out _) (fun k e => .inl e)).trans hS9 (fun k e=>hK2.out k e),fun k e=>by
         rcases hK9 k (by rw[List.append_assoc];exact e) with e2|e2
         ·exact hK2.out k e2
         ·exact .inr (by omega)⟩
        case measure=>simp[intOf];omega
      ·have hli:¬(ln:Int)<(lim:Int):=by omega
       have HE:Hid ((pre++new).map Prod.snd=refC N lim (f'+1) cs (pre.map Prod.snd)):=by
        unfold Hid
        have hno:¬(refTo N lim f' cs c (pre.map Prod.snd) x).length<lim:=by rw[← hM2.out,List.length_map,HLN.out];exact hl
        have:=refTo_stop hno (N - x)
        rw[show x+(N - x)=N by omega] at this
        rw[HR.out,this,hM2.out]
       go_wp2_with fail
       refine bodyPost_ret (v := .slice av2 ln cv2) ?_ rfl ⟨_,new,rfl,hG2.out,HE.out,(Below.stays HFB.out _).trans hS2.out (fun k e => .inl e),fun k e=>(hK2.out k e).imp id (fun h=>by omega)⟩
       simp[results,Tryz.f107,go_sem]
     ·have hxi:¬(x:Int)<(N:Int):=by omega
      have HE:Hid ((pre++new).map Prod.snd=refC N lim (f'+1) cs (pre.map Prod.snd)):=by
       unfold Hid
       rw[HR.out,hM2.out,show x=N by omega]
      go_wp2_with fail
      refine bodyPost_ret (v := .slice av2 ln cv2) ?_ rfl ⟨_,new,rfl,hG2.out,HE.out,(Below.stays HFB.out _).trans hS2.out (fun k e => .inl e),fun k e=>(hK2.out k e).imp id (fun h=>by omega)⟩
      simp[results,Tryz.f107,go_sem]
  ·have e:c=nn:=by omega
   have hci:¬(c:Int)<(nn:Int):=by omega
   have HE:Hid (refC N lim f cs (pre.map Prod.snd)=pre.map Prod.snd++[cs]):=refC_full (fun i hi=>hfull.out i (by rw[HCL.out] at hi;omega))
   have hG1:=HG0.out
   clear e hfull HIH
   go_wp2_with (first|(at_builtin;refine wpList_append_own2 _ rfl _ _ 35 rfl 24 i0 (.agg #[.int .i64 0,.int .i64 0,.slice none 0 0]) 3 40 Tryz.underlying35 hi hz0 hz1 hz2 rfl (by decide) _ _ _ rfl (owns_base (hG1.1.alloc _) (Nat.zero_le _)) ⟨W0.heap.size,0,none⟩ 1 1 [.int .i64 (N:Int),.int .i64 (N:Int),.slice (some ⟨g,0,none⟩) nn cap] rfl rfl (cell_new3 _ _ _ _ _) (by simp[Value.oneCell']) (by unfold maxLen;omega) (by omega) ?_;intro v7 w7 hown7 hgr7 hk7)|fail)
   have hs7:=grow_stays hgr7
   have hown7L:=own_lift hown7 (L:=L) (fun j e=>(hk7 j e).elim (fun e2=>(hG1.1.lt j e2).1) (fun h=>by simp at h;omega))
   have hGn:=hG1.append (x:=(.slice (some ⟨g,0,none⟩) nn cap,cs)) (fun _ h=>h.elim) (owns_base (by rw[HCL.out];exact HO0.out.own) (Nat.zero_le _)) (fun j e=>⟨⟨by cases e;exact hLg,fun h=>h⟩,fun e2=>HVG.out (by cases e;exact e2)⟩) hs7 hown7L (fun j e=>(hk7 j e).imp id (fun h=>by simp at h;omega))
   refine bodyPost_ret (v:=v7) ?_ rfl ⟨v7,[(.slice (some ⟨g,0,none⟩) nn cap,cs)],rfl,hGn,by rw[HE.out,List.map_append];rfl,(Below.stays HFB.out _).trans hs7 (fun k e => .inl e),fun j e=>(hk7 j e).imp id (fun h=>by simp at h;omega)⟩
   simp[results,Tryz.f107,go_sem]
theorem rcompl_c (N nn lim:Nat) (hN1:1≤N) (hN2:N≤16) (hnn:nn≤256) (hlim:lim≤256):∀f,CplS N nn lim f
 | 0=>rcompl_step N nn lim 0 hN1 hN2 hnn hlim (fun f' e=>by omega)
 | f+1=>rcompl_step N nn lim (f+1) hN1 hN2 hnn hlim (fun f' e=>by
   have:f'=f:=by omega
   subst this
   exact rcompl_c N nn lim hN1 hN2 hnn hlim f')
end
section
open Go Go.RowKit
attribute [local go_sem] over_cell
attribute [local go_sem] Oper.semAt_some
theorem rComplete_c (N nn lim:Nat) (a:Option Addr) (c:Nat) (cs:List Int) (w:World) (h:IC w a nn cs) (hN1:1≤N) (hN2:N≤16) (hn1:1≤nn) (hnn:nn≤256) (h1:1≤lim) (hlim:lim≤256) :
  Calls Tryz.prog 28 #[.agg #[.int .i64 (N:Int),.int .i64 (N:Int),.slice a nn c],.int .i64 (lim:Int)] w fun e w'=>∃v pre,e = .returned v∧GridsI N w' noB w.heap.size v pre∧pre.map Prod.snd=refC N lim (opens cs) cs []∧Below w.heap.size w w':=by
 go_enter Tryz.func28,Tryz.ntmps28
 go_upto_region 1 with fail
 have fB:Below w.heap.size w (w.alloc (.cells #[.int .i64 (N:Int),.int .i64 (N:Int),.slice a nn c] 24)):=(Below.refl _ _).alloc (Nat.le_refl _) _
 have FQ:Hid ((w.alloc (.cells #[.int .i64 (N:Int),.int .i64 (N:Int),.slice a nn c] 24)).heap[w.heap.size]?=some (.cells #[.int .i64 (N:Int),.int .i64 (N:Int),.slice a nn c] 24 (0,0))):=World.alloc_heap_new _ _
 generalize (w.alloc (.cells #[.int .i64 (N:Int),.int .i64 (N:Int),.slice a nn c] 24))=W0 at fB FQ ⊢
 obtain ⟨x0,x1,x2,xl⟩:=c3_of FQ.out
 have HCP:=Lib.hid (rcopy_c (N:Int) (N:Int) a nn c cs W0 (h.mono fB) (by omega))
 have HFB:=Lib.hid fB
 have hws:w.heap.size<W0.heap.size:=q_lt FQ.out
 have HCO:=Lib.hid (rcompl_c N nn lim hN1 hN2 hnn hlim (opens cs))
 clear fB h
 go_wp2_with (first|(go_at_call 44;(with_reducible refine HCP.out.mono ?_);rintro _ w6 ⟨a6,c6,rfl,hown6,hb6⟩;obtain ⟨g6,rfl,hO6⟩:=OI.of hown6 hn1;have HC9:=HCO.out w.heap.size g6 c6 cs (.slice none 0 0) [] w6 (Nat.le_refl _) (hO6.base (by omega)) (fun e=>by cases e) (GridsI.nil _ _ _ _) (by simp;omega))|(go_at_call 107;(with_reducible refine HC9.mono ?_);rintro _ w9 ⟨v9,new9,rfl,hG9,hM9,hS9,hK9⟩)|fail)
 have hB9:=hS9.below' (B:=w.heap.size) (w0:=w) (by have:=hb6.size;omega) (keep_trans HFB.out hb6) (fun k e=>by cases e)
 refine bodyPost_ret (v:=v9) ?_ rfl ⟨v9,[]++new9,rfl,hG9,hM9,hB9⟩
 simp[results,Tryz.f28,go_sem]
theorem refC_coL {N:Nat} {ps:List Int} {lim:Nat} (P:Part N ps) (h1:1≤lim):refC N lim (opens ps) ps []=(compP N okT (N*N) 0 ps).take lim:=by
 rw[refC_eq (by simp;omega),List.nil_append,← comp_eq (k:=0) (f:=N*N) (by rw[P.len];omega) (fun i hi=>absurd hi (by omega)) (Nat.le_refl _)]
 rfl
end
section
open Go Go.RowKit
attribute [local go_sem] over_cell
attribute [local go_sem] Oper.semAt_some
theorem firstL_ne {x:Int} {l:List Int} (h:x≠0):firstL (x :: l)=x:=by
 unfold firstL
 rw[if_pos (by simpa using h)]
theorem firstL_z {l:List Int}:firstL (0 :: l)=firstL l:=by
 rw[firstL];simp
end
section
open Go Go.RowKit
attribute [local go_sem] over_cell
attribute [local go_sem] Oper.semAt_some
theorem own_emp (w:World) (B:Nat) (T:TypeId) (hB:B≤w.heap.size):(w.alloc (.cells #[] T)).ownsRow B T 1 (.slice (some ⟨w.heap.size,0,none⟩) 0 0) 0 [] :=
 ⟨rfl,.inr ⟨w.heap.size,0,#[],rfl,hB,World.alloc_heap_new _ _,Nat.le_refl _,by unfold maxLen;omega,rfl,rfl⟩⟩
theorem ints_one (l:List Int):∀u∈l.map (Value.int .i64),u.oneCell'=true:=by
 intro u hu
 obtain ⟨x,_,rfl⟩:=List.mem_map.1 hu
 rfl
theorem src_below {w w':World} {a:Option Addr} {m:Nat} {news:List Value} (h:SrcOk w a m news) (hb:Below w.heap.size w w'):SrcOk w' a m news:=by
 rcases h with ⟨p,rfl,h⟩|h
 ·exact .inl ⟨p,rfl,fun j u hj=>by
   have h1:=h j u hj
   rw[← h1]
   exact hb.cell (cell_lt h1)⟩
 ·exact .inr h
end
section
open Go Go.RowKit
attribute [local go_sem] over_cell
attribute [local go_sem] Oper.semAt_some
def SC (w:World) (a:Option Addr) (n:Nat) (l:List ByteArray):Prop:=(l.length=n∧n≤1000)∧∀k,k<n→∃b off,a=some ⟨b,off,none⟩∧b<w.heap.size∧w.cell? ⟨b,off+k,none⟩=some (.string (l[k]?.getD ⟨#[]⟩))
theorem SC.mono {w w':World} {a:Option Addr} {n:Nat} {l:List ByteArray} (h:SC w a n l) (hb:Below w.heap.size w w'):SC w' a n l :=
 ⟨h.1,fun k hk=>by
  obtain ⟨b,off,e,hl,hc⟩:=h.2 k hk
  exact ⟨b,off,e,Nat.lt_of_lt_of_le hl hb.size,(hb.cell (p:=⟨b,off+k,none⟩) hl).trans hc⟩⟩
end
section
open Go Go.RowKit
attribute [local go_sem] over_cell
attribute [local go_sem] Oper.semAt_some
theorem kNames_len (n:Nat) (cs:List Int):(kNames n cs 7).length≤1000:=by
 unfold kNames kindTo
 rw[List.length_map]
 exact Nat.le_trans (List.length_filter_le _ _) (by simp)
end
end Go.Proofs.YtmfpdakaeagdpaaGreat
