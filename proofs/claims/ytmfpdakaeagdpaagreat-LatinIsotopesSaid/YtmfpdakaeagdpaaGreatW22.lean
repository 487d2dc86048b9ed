/- Texts J82 to J90 of this proof, in one file. -/
import Derived.Test.YtmfpdakaeagdpaaGreatW01
import Derived.Test.YtmfpdakaeagdpaaGreatW02
import Derived.Test.YtmfpdakaeagdpaaGreatW03
import Derived.Test.YtmfpdakaeagdpaaGreatW04
import Derived.Test.YtmfpdakaeagdpaaGreatW05
import Derived.Test.YtmfpdakaeagdpaaGreatW06
import Derived.Test.YtmfpdakaeagdpaaGreatW07
import Derived.Test.YtmfpdakaeagdpaaGreatW08
import Derived.Test.YtmfpdakaeagdpaaGreatW09
import Derived.Test.YtmfpdakaeagdpaaGreatW10
import Derived.Test.YtmfpdakaeagdpaaGreatW11
import Derived.Test.YtmfpdakaeagdpaaGreatW12
import Derived.Test.YtmfpdakaeagdpaaGreatW13
import Derived.Test.YtmfpdakaeagdpaaGreatW19
import Derived.Test.YtmfpdakaeagdpaaGreatW20
import Derived.Test.YtmfpdakaeagdpaaGreatW21
import Derived.Below
import Derived.BigFrame
import Derived.BigQuiet
import Derived.Deep.CutBlock
import Derived.Deep.CutRange
import Derived.Deep.LoopGhost
import Derived.Deep.Quiet
import Derived.Deep.RegionHeld3
import Derived.DeepKeys4
import Derived.KernelRfl
import Derived.Laws.BitsAllLaws
import Derived.Laws.EntriesVeiled
import Derived.Lib.Hide
import Derived.Lib.SliceRun
import Derived.LoopIn
import Derived.LoopNIn
import Derived.Maps.AppendAt
import Derived.Maps.OwnIn
import Derived.Maps.OwnSet
import Derived.OneCell
import Derived.OrdersHeld
import Derived.OrdersIn
import Derived.OwnWalkIn
import Derived.RangeFuncBound
import Derived.RangeFuncCalls
import Derived.RangeFuncLeaves
import Derived.RangeFuncNested
import Derived.Shelf.Abstract
import Derived.Still
import Derived.TacticsIn
import Derived.TacticsInMore
import Derived.Test.YtmfpdakaeagdpaaGreatProg
import Derived.WalkKit
import Derived.WalkLawsBesides
import Derived.WalkSpells
import Derived.WideKeyPair
namespace Go.Proofs.YtmfpdakaeagdpaaGreat
set_option maxRecDepth 100000
set_option maxHeartbeats 16000000
section
open Go Go.RowKit
attribute [local go_sem] over_cell
attribute [local go_sem] Oper.semAt_some
theorem enterKG1:∀args w,Sem.run Tryz.prog (callFunc 203 args) w = .ok (.enter 203 args) w:=by
 intro args w;kernel_rfl
theorem kg_c (N:Nat) (a:Option Addr) (m c:Nat) (cs:List Int) (w:World) (h:IC w a m cs) (hcap:m≤c) (L:Latin N cs) :
  Calls Tryz.prog 193 #[.agg #[.int .i64 (N:Int),.int .i64 (N:Int),.slice a m c]] w fun e w'=>e = .returned (.bool (kGrp N cs))∧Below w.heap.size w w':=by
 have HM:=Lib.hid (fun W (hb:Below w.heap.size w W)=>reduced_c N a m c cs W (h.mono hb) hcap L)
 have HI:=Lib.hid h
 have hN2:=L.le
 have LR:=redu_latin (x := -1) L
 have hNN:N*N≤16*16:=Nat.mul_le_mul hN2 hN2
 have hNNN:N*N*N≤16*16*16:=Nat.mul_le_mul hNN hN2
 have hrl:(reduL (-1) N cs).length≤17592186044416:=by rw[LR.len];omega
 have hmu:(N:Int)*(N:Int)=((N*N:Nat):Int)∧((N*N:Nat):Int)*(N:Int)=((N*N*N:Nat):Int):=⟨(Int.natCast_mul _ _).symm,(Int.natCast_mul _ _).symm⟩
 have HD:Hid (kGrp N cs=(List.range (N*N*N)).all fun k=>symM N (reduL (-1) N cs) (symM N (reduL (-1) N cs) (k / N / N) (k / N % N)) (k % N)==symM N (reduL (-1) N cs) (k / N / N) (symM N (reduL (-1) N cs) (k / N % N) (k % N))):=rfl
 generalize reduL (-1) N cs=rs at HM HD LR hrl
 have HLR:=Lib.hid LR
 clear h L LR
 go_enter Tryz.func193,Tryz.ntmps193
 go_upto_region 1 with fail
 have fB:Below w.heap.size w (w.alloc (.cells #[.int .i64 (N:Int),.int .i64 (N:Int),.slice a m c] 24)):=(Below.refl _ _).alloc (Nat.le_refl _) _
 have FQ:Hid ((w.alloc (.cells #[.int .i64 (N:Int),.int .i64 (N:Int),.slice a m c] 24)).heap[w.heap.size]?=some (.cells #[.int .i64 (N:Int),.int .i64 (N:Int),.slice a m c] 24 (0,0))):=World.alloc_heap_new _ _
 generalize (w.alloc (.cells #[.int .i64 (N:Int),.int .i64 (N:Int),.slice a m c] 24))=W0 at fB FQ ⊢
 obtain ⟨x0,x1,x2,xl⟩:=c3_of FQ.out
 refine wp_region_tree3 (fun w'=>∃u,w'=over (W0) u) [7] (.fork3 [0,2,3] 1 4 5 (.fork [] 4 5 (.leaf [(1,5),(1,6),(2,7)]) (.leaf [(1,4),(1,6),(2,7)])) (.fork [] 1 5 (.leaf [(1,5),(1,6),(2,7)]) (.leaf [(1,1),(1,6),(2,7)])) (.fork [] 1 4 (.leaf [(1,4),(1,6),(2,7)]) (.leaf [(1,1),(1,6),(2,7)]))) (by kernel_rfl) (by kernel_rfl) (by exact ⟨_,below_over (by repeat (first|assumption|exact Below.refl _ _|refine keep_drew ?_|refine keep_alloc ?_ _|refine keep_trans ?_ (by assumption)))⟩) ?_
 all_goals try (first|(refine ⟨?_,?_,?_⟩ <;> dsimp only[List.map,List.cons_append,List.nil_append,pickOps,nthOp])|(refine ⟨?_,?_⟩ <;> dsimp only[List.map,List.cons_append,List.nil_append,pickOps,nthOp]))
 all_goals repeat (first|(refine wpS_skip rfl (fun K hK=>?_);go_big_quiet_op;refine hK _ ?_;clear hK K)|(refine wpS_quiet rfl rfl (fun K hK=>?_);go_big_quiet_op;refine hK _ ?_;clear hK K)|(refine wpS_loud ?_;go_wp2_with (first|(go_at_call 148;refine (HM.out _ (keep_trans fB (by (repeat (first|assumption|exact Below.refl _ _|refine keep_drew ?_|refine keep_alloc ?_ _|refine keep_trans ?_ (by assumption)))))).mono ?_;rintro _ w1 ⟨a2,c2,rfl,hown2,hb2⟩;have hz1:W0.heap.size≤w1.heap.size:=Nat.le_trans (by simp <;> omega) hb2.size;(try (have g:=(show w1.heap[W0.heap.size]?=some (.cells #[.int .i64 0,.int .i64 0,.slice none 0 0] 24 (0,0)) from keepq hb2 (by first|exact World.alloc_heap_new _ _|(have h:=World.alloc_heap_new (W0.alloc (.cells #[.int .i64 0] 3)) (.cells #[.int .i64 0,.int .i64 0,.slice none 0 0] 24);simp only[World.size_alloc] at h;exact h)|(have h:=World.alloc_heap_new (W0.alloc (.cells #[.int .i64 0,.int .i64 0,.slice none 0 0] 24)) (.cells #[.int .i64 0] 3);simp only[World.size_alloc] at h;exact h)|exact (Below.heap_alloc _ _ _ (by simp only[World.size_alloc];omega)).trans (World.alloc_heap_new _ _)));obtain ⟨gc0,gc1,gc2,gcl⟩:=c3_of g;obtain ⟨gf0,gf1,gf2⟩:=f3_of g));(try (have i:=(show w1.heap[W0.heap.size]?=some (.cells #[.int .i64 0] 3 (0,0)) from keepq hb2 (by first|exact World.alloc_heap_new _ _|(have h:=World.alloc_heap_new (W0.alloc (.cells #[.int .i64 0] 3)) (.cells #[.int .i64 0,.int .i64 0,.slice none 0 0] 24);simp only[World.size_alloc] at h;exact h)|(have h:=World.alloc_heap_new (W0.alloc (.cells #[.int .i64 0,.int .i64 0,.slice none 0 0] 24)) (.cells #[.int .i64 0] 3);simp only[World.size_alloc] at h;exact h)|exact (Below.heap_alloc _ _ _ (by simp only[World.size_alloc];omega)).trans (World.alloc_heap_new _ _)));obtain ⟨ic0,if0,icl⟩:=c1_of i));(try (have g:=(show w1.heap[W0.heap.size+1]?=some (.cells #[.int .i64 0,.int .i64 0,.slice none 0 0] 24 (0,0)) from keepq hb2 (by first|exact World.alloc_heap_new _ _|(have h:=World.alloc_heap_new (W0.alloc (.cells #[.int .i64 0] 3)) (.cells #[.int .i64 0,.int .i64 0,.slice none 0 0] 24);simp only[World.size_alloc] at h;exact h)|(have h:=World.alloc_heap_new (W0.alloc (.cells #[.int .i64 0,.int .i64 0,.slice none 0 0] 24)) (.cells #[.int .i64 0] 3);simp only[World.size_alloc] at h;exact h)|exact (Below.heap_alloc _ _ _ (by simp only[World.size_alloc];omega)).trans (World.alloc_heap_new _ _)));obtain ⟨gc0,gc1,gc2,gcl⟩:=c3_of g;obtain ⟨gf0,gf1,gf2⟩:=f3_of g));(try (have i:=(show w1.heap[W0.heap.size+1]?=some (.cells #[.int .i64 0] 3 (0,0)) from keepq hb2 (by first|exact World.alloc_heap_new _ _|(have h:=World.alloc_heap_new (W0.alloc (.cells #[.int .i64 0] 3)) (.cells #[.int .i64 0,.int .i64 0,.slice none 0 0] 24);simp only[World.size_alloc] at h;exact h)|(have h:=World.alloc_heap_new (W0.alloc (.cells #[.int .i64 0,.int .i64 0,.slice none 0 0] 24)) (.cells #[.int .i64 0] 3);simp only[World.size_alloc] at h;exact h)|exact (Below.heap_alloc _ _ _ (by simp only[World.size_alloc];omega)).trans (World.alloc_heap_new _ _)));obtain ⟨ic0,if0,icl⟩:=c1_of i)))|fail);refine ⟨?_,?_⟩;focus (exact ⟨_,below_over (by repeat (first|assumption|exact Below.refl _ _|refine keep_drew ?_|refine keep_alloc ?_ _|refine keep_set ?_ (by first|omega|(dsimp only;omega)) _|refine keep_trans ?_ (by assumption)))⟩)))
 all_goals try refine wpTr_end ?_
 all_goals try (first|(refine ⟨?_,?_,?_⟩ <;> dsimp only[List.map,List.cons_append,List.nil_append,pickOps,nthOp])|(refine ⟨?_,?_⟩ <;> dsimp only[List.map,List.cons_append,List.nil_append,pickOps,nthOp]))
 all_goals repeat (first|(refine wpS_skip rfl (fun K hK=>?_);go_big_quiet_op;refine hK _ ?_;clear hK K)|(refine wpS_quiet rfl rfl (fun K hK=>?_);go_big_quiet_op;refine hK _ ?_;clear hK K)|(refine wpS_loud ?_;go_wp2_with (first|(go_at_call 148;refine (HM.out _ (keep_trans fB (by (repeat (first|assumption|exact Below.refl _ _|refine keep_drew ?_|refine keep_alloc ?_ _|refine keep_trans ?_ (by assumption)))))).mono ?_;rintro _ w1 ⟨a2,c2,rfl,hown2,hb2⟩;have hz1:W0.heap.size≤w1.heap.size:=Nat.le_trans (by simp <;> omega) hb2.size;(try (have g:=(show w1.heap[W0.heap.size]?=some (.cells #[.int .i64 0,.int .i64 0,.slice none 0 0] 24 (0,0)) from keepq hb2 (by first|exact World.alloc_heap_new _ _|(have h:=World.alloc_heap_new (W0.alloc (.cells #[.int .i64 0] 3)) (.cells #[.int .i64 0,.int .i64 0,.slice none 0 0] 24);simp only[World.size_alloc] at h;exact h)|(have h:=World.alloc_heap_new (W0.alloc (.cells #[.int .i64 0,.int .i64 0,.slice none 0 0] 24)) (.cells #[.int .i64 0] 3);simp only[World.size_alloc] at h;exact h)|exact (Below.heap_alloc _ _ _ (by simp only[World.size_alloc];omega)).trans (World.alloc_heap_new _ _)));obtain ⟨gc0,gc1,gc2,gcl⟩:=c3_of g;obtain ⟨gf0,gf1,gf2⟩:=f3_of g));(try (have i:=(show w1.heap[W0.heap.size]?=some (.cells #[.int .i64 0] 3 (0,0)) from keepq hb2 (by first|exact World.alloc_heap_new _ _|(have h:=World.alloc_heap_new (W0.alloc (.cells #[.int .i64 0] 3)) (.cells #[.int .i64 0,.int .i64 0,.slice none 0 0] 24);simp only[World.size_alloc] at h;exact h)|(have h:=World.alloc_heap_new (W0.alloc (.cells #[.int .i64 0,.int .i64 0,.slice none 0 0] 24)) (.cells #[.int .i64 0] 3);simp only[World.size_alloc] at h;exact h)|exact (Below.heap_alloc _ _ _ (by simp only[World.size_alloc];omega)).trans (World.alloc_heap_new _ _)));obtain ⟨ic0,if0,icl⟩:=c1_of i));(try (have g:=(show w1.heap[W0.heap.size+1]?=some (.cells #[.int .i64 0,.int .i64 0,.slice none 0 0] 24 (0,0)) from keepq hb2 (by first|exact World.alloc_heap_new _ _|(have h:=World.alloc_heap_new (W0.alloc (.cells #[.int .i64 0] 3)) (.cells #[.int .i64 0,.int .i64 0,.slice none 0 0] 24);simp only[World.size_alloc] at h;exact h)|(have h:=World.alloc_heap_new (W0.alloc (.cells #[.int .i64 0,.int .i64 0,.slice none 0 0] 24)) (.cells #[.int .i64 0] 3);simp only[World.size_alloc] at h;exact h)|exact (Below.heap_alloc _ _ _ (by simp only[World.size_alloc];omega)).trans (World.alloc_heap_new _ _)));obtain ⟨gc0,gc1,gc2,gcl⟩:=c3_of g;obtain ⟨gf0,gf1,gf2⟩:=f3_of g));(try (have i:=(show w1.heap[W0.heap.size+1]?=some (.cells #[.int .i64 0] 3 (0,0)) from keepq hb2 (by first|exact World.alloc_heap_new _ _|(have h:=World.alloc_heap_new (W0.alloc (.cells #[.int .i64 0] 3)) (.cells #[.int .i64 0,.int .i64 0,.slice none 0 0] 24);simp only[World.size_alloc] at h;exact h)|(have h:=World.alloc_heap_new (W0.alloc (.cells #[.int .i64 0,.int .i64 0,.slice none 0 0] 24)) (.cells #[.int .i64 0] 3);simp only[World.size_alloc] at h;exact h)|exact (Below.heap_alloc _ _ _ (by simp only[World.size_alloc];omega)).trans (World.alloc_heap_new _ _)));obtain ⟨ic0,if0,icl⟩:=c1_of i)))|fail);refine ⟨?_,?_⟩;focus (exact ⟨_,below_over (by repeat (first|assumption|exact Below.refl _ _|refine keep_drew ?_|refine keep_alloc ?_ _|refine keep_set ?_ (by first|omega|(dsimp only;omega)) _|refine keep_trans ?_ (by assumption)))⟩)))
 all_goals try refine wpTr_end ?_
 all_goals try dsimp only[wpTr3,pickOps,nthOp]
 all_goals repeat (first|(refine wpS_skip rfl (fun K hK=>?_);go_big_quiet_op;refine hK _ ?_;clear hK K)|(refine wpS_quiet rfl rfl (fun K hK=>?_);go_big_quiet_op;refine hK _ ?_;clear hK K)|(refine wpS_loud ?_;go_wp2_with (first|(go_at_call 148;refine (HM.out _ (keep_trans fB (by (repeat (first|assumption|exact Below.refl _ _|refine keep_drew ?_|refine keep_alloc ?_ _|refine keep_trans ?_ (by assumption)))))).mono ?_;rintro _ w1 ⟨a2,c2,rfl,hown2,hb2⟩;have hz1:W0.heap.size≤w1.heap.size:=Nat.le_trans (by simp <;> omega) hb2.size;(try (have g:=(show w1.heap[W0.heap.size]?=some (.cells #[.int .i64 0,.int .i64 0,.slice none 0 0] 24 (0,0)) from keepq hb2 (by first|exact World.alloc_heap_new _ _|(have h:=World.alloc_heap_new (W0.alloc (.cells #[.int .i64 0] 3)) (.cells #[.int .i64 0,.int .i64 0,.slice none 0 0] 24);simp only[World.size_alloc] at h;exact h)|(have h:=World.alloc_heap_new (W0.alloc (.cells #[.int .i64 0,.int .i64 0,.slice none 0 0] 24)) (.cells #[.int .i64 0] 3);simp only[World.size_alloc] at h;exact h)|exact (Below.heap_alloc _ _ _ (by simp only[World.size_alloc];omega)).trans (World.alloc_heap_new _ _)));obtain ⟨gc0,gc1,gc2,gcl⟩:=c3_of g;obtain ⟨gf0,gf1,gf2⟩:=f3_of g));(try (have i:=(show w1.heap[W0.heap.size]?=some (.cells #[.int .i64 0] 3 (0,0)) from keepq hb2 (by first|exact World.alloc_heap_new _ _|(have h:=World.alloc_heap_new (W0.alloc (.cells #[.int .i64 0] 3)) (.cells #[.int .i64 0,.int .i64 0,.slice none 0 0] 24);simp only[World.size_alloc] at h;exact h)|(have h:=World.alloc_heap_new (W0.alloc (.cells #[.int .i64 0,.int .i64 0,.slice none 0 0] 24)) (.cells #[.int .i64 0] 3);simp only[World.size_alloc] at h;exact h)|exact (Below.heap_alloc _ _ _ (by simp only[World.size_alloc];omega)).trans (World.alloc_heap_new _ _)));obtain ⟨ic0,if0,icl⟩:=c1_of i));(try (have g:=(show w1.heap[W0.heap.size+1]?=some (.cells #[.int .i64 0,.int .i64 0,.slice none 0 0] 24 (0,0)) from keepq hb2 (by first|exact World.alloc_heap_new _ _|(have h:=World.alloc_heap_new (W0.alloc (.cells #[.int .i64 0] 3)) (.cells #[.int .i64 0,.int .i64 0,.slice none 0 0] 24);simp only[World.size_alloc] at h;exact h)|(have h:=World.alloc_heap_new (W0.alloc (.cells #[.int .i64 0,.int .i64 0,.slice none 0 0] 24)) (.cells #[.int .i64 0] 3);simp only[World.size_alloc] at h;exact h)|exact (Below.heap_alloc _ _ _ (by simp only[World.size_alloc];omega)).trans (World.alloc_heap_new _ _)));obtain ⟨gc0,gc1,gc2,gcl⟩:=c3_of g;obtain ⟨gf0,gf1,gf2⟩:=f3_of g));(try (have i:=(show w1.heap[W0.heap.size+1]?=some (.cells #[.int .i64 0] 3 (0,0)) from keepq hb2 (by first|exact World.alloc_heap_new _ _|(have h:=World.alloc_heap_new (W0.alloc (.cells #[.int .i64 0] 3)) (.cells #[.int .i64 0,.int .i64 0,.slice none 0 0] 24);simp only[World.size_alloc] at h;exact h)|(have h:=World.alloc_heap_new (W0.alloc (.cells #[.int .i64 0,.int .i64 0,.slice none 0 0] 24)) (.cells #[.int .i64 0] 3);simp only[World.size_alloc] at h;exact h)|exact (Below.heap_alloc _ _ _ (by simp only[World.size_alloc];omega)).trans (World.alloc_heap_new _ _)));obtain ⟨ic0,if0,icl⟩:=c1_of i)))|fail);refine ⟨?_,?_⟩;focus (exact ⟨_,below_over (by repeat (first|assumption|exact Below.refl _ _|refine keep_drew ?_|refine keep_alloc ?_ _|refine keep_set ?_ (by first|omega|(dsimp only;omega)) _|refine keep_trans ?_ (by assumption)))⟩)))
 all_goals refine wpS_late _ _ _ rfl ?_
 all_goals dsimp only[List.map]
 ·have qg:((w1.alloc (.cells #[.int .i64 (N:Int),.int .i64 (N:Int),.slice a2 rs.length c2] 24)).alloc (.cells #[.int .i64 0] 3)).heap[w1.heap.size]?=some (.cells #[.int .i64 (N:Int),.int .i64 (N:Int),.slice a2 rs.length c2] 24 (0,0)):=(Below.heap_alloc _ _ _ (by simp)).trans (World.alloc_heap_new _ _)
  have qi:((w1.alloc (.cells #[.int .i64 (N:Int),.int .i64 (N:Int),.slice a2 rs.length c2] 24)).alloc (.cells #[.int .i64 0] 3)).heap[w1.heap.size+1]?=some (.cells #[.int .i64 0] 3 (0,0)):=(by have h:=World.alloc_heap_new (w1.alloc (.cells #[.int .i64 (N:Int),.int .i64 (N:Int),.slice a2 rs.length c2] 24)) (.cells #[.int .i64 0] 3);simp only[World.size_alloc] at h;exact h)
  have hown:((w1.alloc (.cells #[.int .i64 (N:Int),.int .i64 (N:Int),.slice a2 rs.length c2] 24)).alloc (.cells #[.int .i64 0] 3)).ownsRow W0.heap.size 3 1 (.slice a2 rs.length c2) rs.length (rs.map (Value.int .i64)):=owns_base ((hown2.alloc _).alloc _) (by simp <;> omega)
  have hbl:Below W0.heap.size W0 ((w1.alloc (.cells #[.int .i64 (N:Int),.int .i64 (N:Int),.slice a2 rs.length c2] 24)).alloc (.cells #[.int .i64 0] 3)):=keep_alloc (keep_alloc (show Below W0.heap.size W0 w1 by (repeat (first|assumption|exact Below.refl _ _|refine keep_drew ?_|refine keep_alloc ?_ _|refine keep_trans ?_ (by assumption)))) _) _
  have hne:w1.heap.size≠w1.heap.size+1:=by omega
  have hl4:W0.heap.size≤w1.heap.size+1:=by omega
  generalize ((w1.alloc (.cells #[.int .i64 (N:Int),.int .i64 (N:Int),.slice a2 rs.length c2] 24)).alloc (.cells #[.int .i64 0] 3))=WF at qg qi hown hbl ⊢
  obtain ⟨v0,vf,vl⟩:=c1_of qi
  have hnb:(Value.slice a2 rs.length c2).ownBlock≠some (w1.heap.size+1):=fun e=>absurd (hown2.lt _ e).2 (by omega)
  have qi5:=q_set (i:=0) qi (.int .i64 (N:Int))
  have qg5:=q_other (i:=0) qg hne (.int .i64 (N:Int))
  have hown5:=ownsRow_setCell_other (a:=⟨w1.heap.size+1,0,none⟩) hown hnb (.int .i64 (N:Int))
  have hbl5:=keep_set (p:=⟨w1.heap.size+1,0,none⟩) hbl hl4 (.int .i64 (N:Int))
  go_wp2_with fail
  refine NoPanic.normal ?_
  generalize (WF.setCell ⟨w1.heap.size+1,0,none⟩ (.int .i64 (N:Int)))=W5 at qi5 qg5 hown5 hbl5 ⊢
  obtain ⟨v0,vf,vl⟩:=c1_of qi5
  have HI5:=(IC.of_owns hown5 hrl).1
  have hEV:=every_c (N*N*N) (by omega) 203 #[] #[.pointer (some ⟨w1.heap.size+1,0,none⟩),.pointer (some ⟨w1.heap.size,0,none⟩)] (fun k=>symM N rs (symM N rs (k / N / N) (k / N % N)) (k % N)==symM N rs (k / N / N) (symM N rs (k / N % N) (k % N))) (fun _ W=>Below W5.heap.size W5 W) W5 enterKG1 (Below.refl _ _) (fun k hk W hb=>by
   refine (kg1_c N k (w1.heap.size) (w1.heap.size+1) a2 rs.length c2 rs W (HI5.mono hb) HLR.out hk (keepq hb qg5) (keepq hb qi5)).mono ?_
   rintro e w' ⟨rfl,hb'⟩
   exact ⟨rfl,keep_trans hb hb'⟩)
  rw[← HD.out] at hEV
  have HEV:=Lib.hid hEV
  have HB5:=Lib.hid (keep_trans fB hbl5)
  clear hEV qg qi hown hbl qi5 qg5 hown5 HI5 hbl5 hnb
  obtain ⟨e1,e2⟩:=hmu
  clear HD
  generalize N*N*N=s3 at HEV e2 hNNN
  generalize N*N=s2 at e1 e2 hNN
  go_wp2_with (first|(go_at_call 179;refine HEV.out.mono ?_;rintro _ w6 ⟨rfl,k,hb6⟩)|fail)
  refine bodyPost_ret (v := .bool (kGrp N cs)) ?_ rfl ⟨rfl,keep_trans HB5.out hb6⟩
  simp[results,Tryz.f193,go_sem]
 ·have qg:((w1.alloc (.cells #[.int .i64 0] 3)).alloc (.cells #[.int .i64 (N:Int),.int .i64 (N:Int),.slice a2 rs.length c2] 24)).heap[w1.heap.size+1]?=some (.cells #[.int .i64 (N:Int),.int .i64 (N:Int),.slice a2 rs.length c2] 24 (0,0)):=(by have h:=World.alloc_heap_new (w1.alloc (.cells #[.int .i64 0] 3)) (.cells #[.int .i64 (N:Int),.int .i64 (N:Int),.slice a2 rs.length c2] 24);simp only[World.size_alloc] at h;exact h)
  have qi:((w1.alloc (.cells #[.int .i64 0] 3)).alloc (.cells #[.int .i64 (N:Int),.int .i64 (N:Int),.slice a2 rs.length c2] 24)).heap[w1.heap.size]?=some (.cells #[.int .i64 0] 3 (0,0)):=(Below.heap_alloc _ _ _ (by simp)).trans (World.alloc_heap_new _ _)
  have hown:((w1.alloc (.cells #[.int .i64 0] 3)).alloc (.cells #[.int .i64 (N:Int),.int .i64 (N:Int),.slice a2 rs.length c2] 24)).ownsRow W0.heap.size 3 1 (.slice a2 rs.length c2) rs.length (rs.map (Value.int .i64)):=owns_base ((hown2.alloc _).alloc _) (by simp <;> omega)
  have hbl:Below W0.heap.size W0 ((w1.alloc (.cells #[.int .i64 0] 3)).alloc (.cells #[.int .i64 (N:Int),.int .i64 (N:Int),.slice a2 rs.length c2] 24)):=keep_alloc (keep_alloc (show Below W0.heap.size W0 w1 by (repeat (first|assumption|exact Below.refl _ _|refine keep_drew ?_|refine keep_alloc ?_ _|refine keep_trans ?_ (by assumption)))) _) _
  have hne:w1.heap.size+1≠w1.heap.size:=by omega
  have hl4:W0.heap.size≤w1.heap.size:=by omega
  generalize ((w1.alloc (.cells #[.int .i64 0] 3)).alloc (.cells #[.int .i64 (N:Int),.int .i64 (N:Int),.slice a2 rs.length c2] 24))=WF at qg qi hown hbl ⊢
  obtain ⟨v0,vf,vl⟩:=c1_of qi
  have hnb:(Value.slice a2 rs.length c2).ownBlock≠some (w1.heap.size):=fun e=>absurd (hown2.lt _ e).2 (by omega)
  have qi5:=q_set (i:=0) qi (.int .i64 (N:Int))
  have qg5:=q_other (i:=0) qg hne (.int .i64 (N:Int))
  have hown5:=ownsRow_setCell_other (a:=⟨w1.heap.size,0,none⟩) hown hnb (.int .i64 (N:Int))
  have hbl5:=keep_set (p:=⟨w1.heap.size,0,none⟩) hbl hl4 (.int .i64 (N:Int))
  go_wp2_with fail
  refine NoPanic.normal ?_
  generalize (WF.setCell ⟨w1.heap.size,0,none⟩ (.int .i64 (N:Int)))=W5 at qi5 qg5 hown5 hbl5 ⊢
  obtain ⟨v0,vf,vl⟩:=c1_of qi5
  have HI5:=(IC.of_owns hown5 hrl).1
  have hEV:=every_c (N*N*N) (by omega) 203 #[] #[.pointer (some ⟨w1.heap.size,0,none⟩),.pointer (some ⟨w1.heap.size+1,0,none⟩)] (fun k=>symM N rs (symM N rs (k / N / N) (k / N % N)) (k % N)==symM N rs (k / N / N) (symM N rs (k / N % N) (k % N))) (fun _ W=>Below W5.heap.size W5 W) W5 enterKG1 (Below.refl _ _) (fun k hk W hb=>by
   refine (kg1_c N k (w1.heap.size+1) (w1.heap.size) a2 rs.length c2 rs W (HI5.mono hb) HLR.out hk (keepq hb qg5) (keepq hb qi5)).mono ?_
   rintro e w' ⟨rfl,hb'⟩
   exact ⟨rfl,keep_trans hb hb'⟩)
  rw[← HD.out] at hEV
  have HEV:=Lib.hid hEV
  have HB5:=Lib.hid (keep_trans fB hbl5)
  clear hEV qg qi hown hbl qi5 qg5 hown5 HI5 hbl5 hnb
  obtain ⟨e1,e2⟩:=hmu
  clear HD
  generalize N*N*N=s3 at HEV e2 hNNN
  generalize N*N=s2 at e1 e2 hNN
  go_wp2_with (first|(go_at_call 179;refine HEV.out.mono ?_;rintro _ w6 ⟨rfl,k,hb6⟩)|fail)
  refine bodyPost_ret (v := .bool (kGrp N cs)) ?_ rfl ⟨rfl,keep_trans HB5.out hb6⟩
  simp[results,Tryz.f193,go_sem]
 ·have qg:((((w1.setCell ⟨W0.heap.size,0,none⟩ (.int .i64 (N:Int))).setCell ⟨W0.heap.size,1,none⟩ (.int .i64 (N:Int))).setCell ⟨W0.heap.size,2,none⟩ (.slice a2 rs.length c2)).alloc (.cells #[.int .i64 0] 3)).heap[W0.heap.size]?=some (.cells #[.int .i64 (N:Int),.int .i64 (N:Int),.slice a2 rs.length c2] 24 (0,0)):=(Below.heap_alloc _ _ _ (by simp <;> omega)).trans (st3_q g)
  have qi:((((w1.setCell ⟨W0.heap.size,0,none⟩ (.int .i64 (N:Int))).setCell ⟨W0.heap.size,1,none⟩ (.int .i64 (N:Int))).setCell ⟨W0.heap.size,2,none⟩ (.slice a2 rs.length c2)).alloc (.cells #[.int .i64 0] 3)).heap[w1.heap.size]?=some (.cells #[.int .i64 0] 3 (0,0)):=(by have h:=World.alloc_heap_new (((w1.setCell ⟨W0.heap.size,0,none⟩ (.int .i64 (N:Int))).setCell ⟨W0.heap.size,1,none⟩ (.int .i64 (N:Int))).setCell ⟨W0.heap.size,2,none⟩ (.slice a2 rs.length c2)) (.cells #[.int .i64 0] 3);simp only[World.size_setCell] at h;exact h)
  have hown:((((w1.setCell ⟨W0.heap.size,0,none⟩ (.int .i64 (N:Int))).setCell ⟨W0.heap.size,1,none⟩ (.int .i64 (N:Int))).setCell ⟨W0.heap.size,2,none⟩ (.slice a2 rs.length c2)).alloc (.cells #[.int .i64 0] 3)).ownsRow W0.heap.size 3 1 (.slice a2 rs.length c2) rs.length (rs.map (Value.int .i64)):=owns_base ((st3_own hown2 (fun e=>by have:=(hown2.lt _ e).1;simp at this <;> omega)).alloc _) (by simp <;> omega)
  have hbl:Below W0.heap.size W0 ((((w1.setCell ⟨W0.heap.size,0,none⟩ (.int .i64 (N:Int))).setCell ⟨W0.heap.size,1,none⟩ (.int .i64 (N:Int))).setCell ⟨W0.heap.size,2,none⟩ (.slice a2 rs.length c2)).alloc (.cells #[.int .i64 0] 3)):=keep_alloc (st3_below (show Below W0.heap.size W0 w1 by (repeat (first|assumption|exact Below.refl _ _|refine keep_drew ?_|refine keep_alloc ?_ _|refine keep_trans ?_ (by assumption)))) (Nat.le_refl _)) _
  have hne:W0.heap.size≠w1.heap.size:=by omega
  have hl4:W0.heap.size≤w1.heap.size:=by omega
  generalize ((((w1.setCell ⟨W0.heap.size,0,none⟩ (.int .i64 (N:Int))).setCell ⟨W0.heap.size,1,none⟩ (.int .i64 (N:Int))).setCell ⟨W0.heap.size,2,none⟩ (.slice a2 rs.length c2)).alloc (.cells #[.int .i64 0] 3))=WF at qg qi hown hbl ⊢
  obtain ⟨v0,vf,vl⟩:=c1_of qi
  have hnb:(Value.slice a2 rs.length c2).ownBlock≠some (w1.heap.size):=fun e=>absurd (hown2.lt _ e).2 (by omega)
  have qi5:=q_set (i:=0) qi (.int .i64 (N:Int))
  have qg5:=q_other (i:=0) qg hne (.int .i64 (N:Int))
  have hown5:=ownsRow_setCell_other (a:=⟨w1.heap.size,0,none⟩) hown hnb (.int .i64 (N:Int))
  have hbl5:=keep_set (p:=⟨w1.heap.size,0,none⟩) hbl hl4 (.int .i64 (N:Int))
  go_wp2_with fail
  refine NoPanic.normal ?_
  generalize (WF.setCell ⟨w1.heap.size,0,none⟩ (.int .i64 (N:Int)))=W5 at qi5 qg5 hown5 hbl5 ⊢
  obtain ⟨v0,vf,vl⟩:=c1_of qi5
  have HI5:=(IC.of_owns hown5 hrl).1
  have hEV:=every_c (N*N*N) (by omega) 203 #[] #[.pointer (some ⟨w1.heap.size,0,none⟩),.pointer (some ⟨W0.heap.size,0,none⟩)] (fun k=>symM N rs (symM N rs (k / N / N) (k / N % N)) (k % N)==symM N rs (k / N / N) (symM N rs (k / N % N) (k % N))) (fun _ W=>Below W5.heap.size W5 W) W5 enterKG1 (Below.refl _ _) (fun k hk W hb=>by
   refine (kg1_c N k (W0.heap.size) (w1.heap.size) a2 rs.length c2 rs W (HI5.mono hb) HLR.out hk (keepq hb qg5) (keepq hb qi5)).mono ?_
   rintro e w' ⟨rfl,hb'⟩
   exact ⟨rfl,keep_trans hb hb'⟩)
  rw[← HD.out] at hEV
  have HEV:=Lib.hid hEV
  have HB5:=Lib.hid (keep_trans fB hbl5)
  clear hEV qg qi hown hbl qi5 qg5 hown5 HI5 hbl5 hnb
  obtain ⟨e1,e2⟩:=hmu
  clear HD
  generalize N*N*N=s3 at HEV e2 hNNN
  generalize N*N=s2 at e1 e2 hNN
  go_wp2_with (first|(go_at_call 179;refine HEV.out.mono ?_;rintro _ w6 ⟨rfl,k,hb6⟩)|fail)
  refine bodyPost_ret (v := .bool (kGrp N cs)) ?_ rfl ⟨rfl,keep_trans HB5.out hb6⟩
  simp[results,Tryz.f193,go_sem]
 ·have qg:((((w1.setCell ⟨W0.heap.size,0,none⟩ (.int .i64 (N:Int))).setCell ⟨W0.heap.size,1,none⟩ (.int .i64 (N:Int))).setCell ⟨W0.heap.size,2,none⟩ (.slice a2 rs.length c2))).heap[W0.heap.size]?=some (.cells #[.int .i64 (N:Int),.int .i64 (N:Int),.slice a2 rs.length c2] 24 (0,0)):=st3_q g
  have qi:((((w1.setCell ⟨W0.heap.size,0,none⟩ (.int .i64 (N:Int))).setCell ⟨W0.heap.size,1,none⟩ (.int .i64 (N:Int))).setCell ⟨W0.heap.size,2,none⟩ (.slice a2 rs.length c2))).heap[W0.heap.size+1]?=some (.cells #[.int .i64 0] 3 (0,0)):=q_other (q_other (q_other i (by omega) _) (by omega) _) (by omega) _
  have hown:((((w1.setCell ⟨W0.heap.size,0,none⟩ (.int .i64 (N:Int))).setCell ⟨W0.heap.size,1,none⟩ (.int .i64 (N:Int))).setCell ⟨W0.heap.size,2,none⟩ (.slice a2 rs.length c2))).ownsRow W0.heap.size 3 1 (.slice a2 rs.length c2) rs.length (rs.map (Value.int .i64)):=owns_base (st3_own hown2 (fun e=>by have:=(hown2.lt _ e).1;simp at this <;> omega)) (by simp <;> omega)
  have hbl:Below W0.heap.size W0 ((((w1.setCell ⟨W0.heap.size,0,none⟩ (.int .i64 (N:Int))).setCell ⟨W0.heap.size,1,none⟩ (.int .i64 (N:Int))).setCell ⟨W0.heap.size,2,none⟩ (.slice a2 rs.length c2))):=st3_below (show Below W0.heap.size W0 w1 by (repeat (first|assumption|exact Below.refl _ _|refine keep_drew ?_|refine keep_alloc ?_ _|refine keep_trans ?_ (by assumption)))) (Nat.le_refl _)
  have hne:W0.heap.size≠W0.heap.size+1:=by omega
  have hl4:W0.heap.size≤W0.heap.size+1:=by omega
  generalize ((((w1.setCell ⟨W0.heap.size,0,none⟩ (.int .i64 (N:Int))).setCell ⟨W0.heap.size,1,none⟩ (.int .i64 (N:Int))).setCell ⟨W0.heap.size,2,none⟩ (.slice a2 rs.length c2)))=WF at qg qi hown hbl ⊢
  obtain ⟨v0,vf,vl⟩:=c1_of qi
  have hnb:(Value.slice a2 rs.length c2).ownBlock≠some (W0.heap.size+1):=fun e=>absurd (hown2.lt _ e).1 (by simp <;> omega)
  have qi5:=q_set (i:=0) qi (.int .i64 (N:Int))
  have qg5:=q_other (i:=0) qg hne (.int .i64 (N:Int))
  have hown5:=ownsRow_setCell_other (a:=⟨W0.heap.size+1,0,none⟩) hown hnb (.int .i64 (N:Int))
  have hbl5:=keep_set (p:=⟨W0.heap.size+1,0,none⟩) hbl hl4 (.int .i64 (N:Int))
  go_wp2_with fail
  refine NoPanic.normal ?_
  generalize (WF.setCell ⟨W0.heap.size+1,0,none⟩ (.int .i64 (N:Int)))=W5 at qi5 qg5 hown5 hbl5 ⊢
  obtain ⟨v0,vf,vl⟩:=c1_of qi5
  have HI5:=(IC.of_owns hown5 hrl).1
  have hEV:=every_c (N*N*N) (by omega) 203 #[] #[.pointer (some ⟨W0.heap.size+1,0,none⟩),.pointer (some ⟨W0.heap.size,0,none⟩)] (fun k=>symM N rs (symM N rs (k / N / N) (k / N % N)) (k % N)==symM N rs (k / N / N) (symM N rs (k / N % N) (k % N))) (fun _ W=>Below W5.heap.size W5 W) W5 enterKG1 (Below.refl _ _) (fun k hk W hb=>by
   refine (kg1_c N k (W0.heap.size) (W0.heap.size+1) a2 rs.length c2 rs W (HI5.mono hb) HLR.out hk (keepq hb qg5) (keepq hb qi5)).mono ?_
   rintro e w' ⟨rfl,hb'⟩
   exact ⟨rfl,keep_trans hb hb'⟩)
  rw[← HD.out] at hEV
  have HEV:=Lib.hid hEV
  have HB5:=Lib.hid (keep_trans fB hbl5)
  clear hEV qg qi hown hbl qi5 qg5 hown5 HI5 hbl5 hnb
  obtain ⟨e1,e2⟩:=hmu
  clear HD
  generalize N*N*N=s3 at HEV e2 hNNN
  generalize N*N=s2 at e1 e2 hNN
  go_wp2_with (first|(go_at_call 179;refine HEV.out.mono ?_;rintro _ w6 ⟨rfl,k,hb6⟩)|fail)
  refine bodyPost_ret (v := .bool (kGrp N cs)) ?_ rfl ⟨rfl,keep_trans HB5.out hb6⟩
  simp[results,Tryz.f193,go_sem]
 ·have qg:(w1.alloc (.cells #[.int .i64 (N:Int),.int .i64 (N:Int),.slice a2 rs.length c2] 24)).heap[w1.heap.size]?=some (.cells #[.int .i64 (N:Int),.int .i64 (N:Int),.slice a2 rs.length c2] 24 (0,0)):=World.alloc_heap_new _ _
  have qi:(w1.alloc (.cells #[.int .i64 (N:Int),.int .i64 (N:Int),.slice a2 rs.length c2] 24)).heap[W0.heap.size]?=some (.cells #[.int .i64 0] 3 (0,0)):=keepq (keep_alloc (Below.refl _ _) _) i
  have hown:(w1.alloc (.cells #[.int .i64 (N:Int),.int .i64 (N:Int),.slice a2 rs.length c2] 24)).ownsRow W0.heap.size 3 1 (.slice a2 rs.length c2) rs.length (rs.map (Value.int .i64)):=owns_base (hown2.alloc _) (by simp <;> omega)
  have hbl:Below W0.heap.size W0 (w1.alloc (.cells #[.int .i64 (N:Int),.int .i64 (N:Int),.slice a2 rs.length c2] 24)):=keep_alloc (show Below W0.heap.size W0 w1 by (repeat (first|assumption|exact Below.refl _ _|refine keep_drew ?_|refine keep_alloc ?_ _|refine keep_trans ?_ (by assumption)))) _
  have hne:w1.heap.size≠W0.heap.size:=by omega
  have hl4:W0.heap.size≤W0.heap.size:=by omega
  generalize (w1.alloc (.cells #[.int .i64 (N:Int),.int .i64 (N:Int),.slice a2 rs.length c2] 24))=WF at qg qi hown hbl ⊢
  obtain ⟨v0,vf,vl⟩:=c1_of qi
  have hnb:(Value.slice a2 rs.length c2).ownBlock≠some (W0.heap.size):=fun e=>absurd (hown2.lt _ e).1 (by simp <;> omega)
  have qi5:=q_set (i:=0) qi (.int .i64 (N:Int))
  have qg5:=q_other (i:=0) qg hne (.int .i64 (N:Int))
  have hown5:=ownsRow_setCell_other (a:=⟨W0.heap.size,0,none⟩) hown hnb (.int .i64 (N:Int))
  have hbl5:=keep_set (p:=⟨W0.heap.size,0,none⟩) hbl hl4 (.int .i64 (N:Int))
  go_wp2_with fail
  refine NoPanic.normal ?_
  generalize (WF.setCell ⟨W0.heap.size,0,none⟩ (.int .i64 (N:Int)))=W5 at qi5 qg5 hown5 hbl5 ⊢
  obtain ⟨v0,vf,vl⟩:=c1_of qi5
  have HI5:=(IC.of_owns hown5 hrl).1
  have hEV:=every_c (N*N*N) (by omega) 203 #[] #[.pointer (some ⟨W0.heap.size,0,none⟩),.pointer (some ⟨w1.heap.size,0,none⟩)] (fun k=>symM N rs (symM N rs (k / N / N) (k / N % N)) (k % N)==symM N rs (k / N / N) (symM N rs (k / N % N) (k % N))) (fun _ W=>Below W5.heap.size W5 W) W5 enterKG1 (Below.refl _ _) (fun k hk W hb=>by
   refine (kg1_c N k (w1.heap.size) (W0.heap.size) a2 rs.length c2 rs W (HI5.mono hb) HLR.out hk (keepq hb qg5) (keepq hb qi5)).mono ?_
   rintro e w' ⟨rfl,hb'⟩
   exact ⟨rfl,keep_trans hb hb'⟩)
  rw[← HD.out] at hEV
  have HEV:=Lib.hid hEV
  have HB5:=Lib.hid (keep_trans fB hbl5)
  clear hEV qg qi hown hbl qi5 qg5 hown5 HI5 hbl5 hnb
  obtain ⟨e1,e2⟩:=hmu
  clear HD
  generalize N*N*N=s3 at HEV e2 hNNN
  generalize N*N=s2 at e1 e2 hNN
  go_wp2_with (first|(go_at_call 179;refine HEV.out.mono ?_;rintro _ w6 ⟨rfl,k,hb6⟩)|fail)
  refine bodyPost_ret (v := .bool (kGrp N cs)) ?_ rfl ⟨rfl,keep_trans HB5.out hb6⟩
  simp[results,Tryz.f193,go_sem]
 ·have qg:((((w1.setCell ⟨W0.heap.size+1,0,none⟩ (.int .i64 (N:Int))).setCell ⟨W0.heap.size+1,1,none⟩ (.int .i64 (N:Int))).setCell ⟨W0.heap.size+1,2,none⟩ (.slice a2 rs.length c2))).heap[W0.heap.size+1]?=some (.cells #[.int .i64 (N:Int),.int .i64 (N:Int),.slice a2 rs.length c2] 24 (0,0)):=st3_q g
  have qi:((((w1.setCell ⟨W0.heap.size+1,0,none⟩ (.int .i64 (N:Int))).setCell ⟨W0.heap.size+1,1,none⟩ (.int .i64 (N:Int))).setCell ⟨W0.heap.size+1,2,none⟩ (.slice a2 rs.length c2))).heap[W0.heap.size]?=some (.cells #[.int .i64 0] 3 (0,0)):=q_other (q_other (q_other i (by omega) _) (by omega) _) (by omega) _
  have hown:((((w1.setCell ⟨W0.heap.size+1,0,none⟩ (.int .i64 (N:Int))).setCell ⟨W0.heap.size+1,1,none⟩ (.int .i64 (N:Int))).setCell ⟨W0.heap.size+1,2,none⟩ (.slice a2 rs.length c2))).ownsRow W0.heap.size 3 1 (.slice a2 rs.length c2) rs.length (rs.map (Value.int .i64)):=owns_base (st3_own hown2 (fun e=>by have:=(hown2.lt _ e).1;simp at this <;> omega)) (by simp <;> omega)
  have hbl:Below W0.heap.size W0 ((((w1.setCell ⟨W0.heap.size+1,0,none⟩ (.int .i64 (N:Int))).setCell ⟨W0.heap.size+1,1,none⟩ (.int .i64 (N:Int))).setCell ⟨W0.heap.size+1,2,none⟩ (.slice a2 rs.length c2))):=st3_below (show Below W0.heap.size W0 w1 by (repeat (first|assumption|exact Below.refl _ _|refine keep_drew ?_|refine keep_alloc ?_ _|refine keep_trans ?_ (by assumption)))) (by omega)
  have hne:W0.heap.size+1≠W0.heap.size:=by omega
  have hl4:W0.heap.size≤W0.heap.size:=by omega
  generalize ((((w1.setCell ⟨W0.heap.size+1,0,none⟩ (.int .i64 (N:Int))).setCell ⟨W0.heap.size+1,1,none⟩ (.int .i64 (N:Int))).setCell ⟨W0.heap.size+1,2,none⟩ (.slice a2 rs.length c2)))=WF at qg qi hown hbl ⊢
  obtain ⟨v0,vf,vl⟩:=c1_of qi
  have hnb:(Value.slice a2 rs.length c2).ownBlock≠some (W0.heap.size):=fun e=>absurd (hown2.lt _ e).1 (by simp <;> omega)
  have qi5:=q_set (i:=0) qi (.int .i64 (N:Int))
  have qg5:=q_other (i:=0) qg hne (.int .i64 (N:Int))
  have hown5:=ownsRow_setCell_other (a:=⟨W0.heap.size,0,none⟩) hown hnb (.int .i64 (N:Int))
  have hbl5:=keep_set (p:=⟨W0.heap.size,0,none⟩) hbl hl4 (.int .i64 (N:Int))
  go_wp2_with fail
  refine NoPanic.normal ?_
  generalize (WF.setCell ⟨W0.heap.size,0,none⟩ (.int .i64 (N:Int)))=W5 at qi5 qg5 hown5 hbl5 ⊢
  obtain ⟨v0,vf,vl⟩:=c1_of qi5
  have HI5:=(IC.of_owns hown5 hrl).1
  have hEV:=every_c (N*N*N) (by omega) 203 #[] #[.pointer (some ⟨W0.heap.size,0,none⟩),.pointer (some ⟨W0.heap.size+1,0,none⟩)] (fun k=>symM N rs (symM N rs (k / N / N) (k / N % N)) (k % N)==symM N rs (k / N / N) (symM N rs (k / N % N) (k % N))) (fun _ W=>Below W5.heap.size W5 W) W5 enterKG1 (Below.refl _ _) (fun k hk W hb=>by
   refine (kg1_c N k (W0.heap.size+1) (W0.heap.size) a2 rs.length c2 rs W (HI5.mono hb) HLR.out hk (keepq hb qg5) (keepq hb qi5)).mono ?_
   rintro e w' ⟨rfl,hb'⟩
   exact ⟨rfl,keep_trans hb hb'⟩)
  rw[← HD.out] at hEV
  have HEV:=Lib.hid hEV
  have HB5:=Lib.hid (keep_trans fB hbl5)
  clear hEV qg qi hown hbl qi5 qg5 hown5 HI5 hbl5 hnb
  obtain ⟨e1,e2⟩:=hmu
  clear HD
  generalize N*N*N=s3 at HEV e2 hNNN
  generalize N*N=s2 at e1 e2 hNN
  go_wp2_with (first|(go_at_call 179;refine HEV.out.mono ?_;rintro _ w6 ⟨rfl,k,hb6⟩)|fail)
  refine bodyPost_ret (v := .bool (kGrp N cs)) ?_ rfl ⟨rfl,keep_trans HB5.out hb6⟩
  simp[results,Tryz.f193,go_sem]
end
section
open Go Go.RowKit
attribute [local go_sem] over_cell
attribute [local go_sem] Oper.semAt_some
theorem ldig_c (q p x:Nat) (az:Option Addr) (nz cz:Nat) (w:World) (hp1:2≤p) (hp2:p≤16) (hx:x≤100000) (hz:nz≤8) :
  Calls Tryz.prog 169 #[.agg #[.int .i64 (q:Int),.int .i64 (p:Int),.slice az nz cz],.int .i64 (x:Int)] w fun e w'=>∃a c,e = .returned (.slice a nz c)∧w'.ownsRow w.heap.size 3 1 (.slice a nz c) nz ((dgtL p nz x).map (Value.int .i64))∧Below w.heap.size w w':=by
 obtain ⟨i0,hi,hz0,hz1,hz2⟩:=info_parts infoInt
 have hne:(p:Int)≠0:=by omega
 go_enter Tryz.func169,Tryz.ntmps169
 go_upto_region 2 with fail
 have fsz:(w.alloc (.cells #[.int .i64 (q:Int),.int .i64 (p:Int),.slice az nz cz] 136)).heap.size=w.heap.size+1:=by simp only[World.size_alloc]
 have fB:Below w.heap.size w (w.alloc (.cells #[.int .i64 (q:Int),.int .i64 (p:Int),.slice az nz cz] 136)):=(Below.refl _ _).alloc (Nat.le_refl _) _
 have fq0:(w.alloc (.cells #[.int .i64 (q:Int),.int .i64 (p:Int),.slice az nz cz] 136)).heap[w.heap.size]?=some (.cells #[.int .i64 (q:Int),.int .i64 (p:Int),.slice az nz cz] 136 (0,0)):=by have h:=World.alloc_heap_new w (.cells #[.int .i64 (q:Int),.int .i64 (p:Int),.slice az nz cz] 136);exact h
 generalize (w.alloc (.cells #[.int .i64 (q:Int),.int .i64 (p:Int),.slice az nz cz] 136))=W0 at fsz fB fq0 ⊢
 have FQ:=Lib.hid fq0
 have FB:=Lib.hid fB
 have hsz:=fB.size
 obtain ⟨x0,x1,x2,xl⟩:=c3_of fq0
 clear fsz fq0 fB
 go_wp2_with fail
 go_loopw [1,5,9] (fun s1 s5 s9 wr=>∃(k:Nat) (aS:Option Addr) (cS:Nat),k≤nz∧s9 = .int .i64 (k:Int)∧s1 = .int .i64 ((x / p ^ k:Nat):Int)∧s5 = .slice aS k cS∧Hid (wr.ownsRow W0.heap.size 3 1 (.slice aS k cS) k ((dgtL p k x).map (Value.int .i64)))∧Hid (Below W0.heap.size W0 wr)) (fun _ _ s9 _=>nz - (intOf s9).toNat)
 case atStart=>exact ⟨0,none,0,by omega,rfl,by rw[Nat.pow_zero,Nat.div_one],rfl,World.ownsRow_nil _ _ _ _,Below.refl _ _⟩
 case round =>
  obtain ⟨k,aS,cS,hk1,rfl,rfl,rfl,how,hb⟩:=hrel
  clear x0 x1 x2 xl
  obtain ⟨x0,x1,x2,xl⟩:=c3_of (keepq hb.out FQ.out)
  by_cases hlt:k<nz
  ·have hkI:(k:Int)<(nz:Int):=by omega
   have hy:x / p ^ k≤100000:=Nat.le_trans (Nat.div_le_self _ _) hx
   have HS:Hid (dgtL p (k+1) x=dgtL p k x++[((x / p ^ k % p:Nat):Int)]):=dgtL_snoc p k x
   have HY:Hid (x / p ^ (k+1)=x / p ^ k / p):=by unfold Hid;rw[Nat.pow_succ,Nat.div_div_eq_div_mul]
   generalize x / p ^ k=y at hy HS HY ⊢
   have e1:(y:Int) % (p:Int)=((y % p:Nat):Int):=(Int.natCast_emod _ _).symm
   have e2:(y:Int) / (p:Int)=((y / p:Nat):Int):=(Int.natCast_ediv _ _).symm
   have hd:=Nat.div_le_self y p
   have hm:=Nat.mod_le y p
   generalize y % p=mm at e1 HS hm
   generalize y / p=dd at e2 HY hd
   have hszL:=hb.out.size
   go_wp2_with (first|(at_builtin;refine wpList_append_ext _ rfl _ _ 22 rfl _ 3 i0 (.int .i64 0) 8 Tryz.underlying22 hi hz0 hz1 hz2 rfl (.slice aS k cS) k _ rfl (how.out.alloc _) (by rw[World.size_alloc];omega) ⟨wr.heap.size,0,none⟩ 1 1 [.int .i64 (mm:Int)] rfl rfl (cell_one_new _ _ _) (by simp[Value.oneCell']) (by unfold maxLen;omega) (by omega) ?_;intro v7 w7 hown7 hst7 hx7;obtain ⟨a7,c7,rfl⟩:=owns_shape hown7;have hb7:Below W0.heap.size W0 w7:=hst7.below' (by rw[World.size_alloc];omega) (hb.out.alloc hszL _) (fun k e=>(how.out.lt k e).1);clear x0 x1 x2 xl;obtain ⟨x0,x1,x2,xl⟩:=c3_of (keepq hb7 FQ.out))|fail)
   go_roundw
   case rel=>exact ⟨k+1,a7,c7,by omega,by go_num,by rw[HY.out],rfl,by rw[HS.out,List.map_append];exact hown7,hb7⟩
   case measure=>simp[intOf];omega
  ·have e:k=nz:=by omega
   subst e
   go_wp2_with fail
   refine bodyPost_ret (v := .slice aS k cS) ?_ rfl ⟨aS,cS,rfl,owns_base how.out hsz,keep_trans FB.out hb.out⟩
   simp[results,Tryz.f169,go_sem]
end
section
open Go Go.RowKit
attribute [local go_sem] over_cell
attribute [local go_sem] Oper.semAt_some
theorem prime_no:∀q:Fin 17,∀i:Fin 6,2≤i.val→i.val*i.val≤q.val→q.val % i.val=0→primeB q.val=false:=by decide
theorem prime_end:∀q:Fin 17,∀i:Fin 6,2≤i.val→(∀j:Fin 6,2≤j.val→j.val<i.val→q.val % j.val≠0)→q.val<i.val*i.val→primeB q.val=decide (2≤q.val):=by decide
theorem isprime_c (q:Nat) (w:World) (hq:q≤16) :
  Calls Tryz.prog 215 #[.int .i64 (q:Int)] w fun e w'=>e = .returned (.bool (primeB q))∧Below w.heap.size w w':=by
 obtain ⟨R,hR⟩:∃R,R=primeB q:=⟨_,rfl⟩
 rw[← hR]
 have HR:=Lib.hid hR
 clear hR
 go_enter Tryz.func215,Tryz.ntmps215
 go_wp2_with fail
 go_loopw [2,3] (fun s2 s3 wr=>∃i:Nat,2≤i∧i≤5∧s3 = .int .i64 (i:Int)∧Hid (∀j:Fin 6,2≤j.val→j.val<i→q % j.val≠0)∧wr=w) (fun _ s3 _=>6 - (intOf s3).toNat)
 case atStart=>exact ⟨2,by omega,by omega,rfl,fun j h1 h2=>absurd h2 (by omega),rfl⟩
 case round =>
  obtain ⟨i,hi1,hi2,rfl,hno,rfl⟩:=hrel
  have hii:i*i≤5*5:=Nat.mul_le_mul hi2 hi2
  have e1:(i:Int)*(i:Int)=((i*i:Nat):Int):=(Int.natCast_mul _ _).symm
  have e2:(q:Int) % (i:Int)=((q % i:Nat):Int):=(Int.natCast_emod _ _).symm
  have hne:(i:Int)≠0:=by omega
  by_cases hlt:i*i≤q
  ·have hi4:i≤4:=by
    by_cases e:i≤4
    ·exact e
    ·have:i=5:=by omega
     subst this;omega
   have hm:q % i≤q:=Nat.mod_le _ _
   by_cases h0:q % i=0
   ·have HN:Hid (R=false):=by unfold Hid;rw[HR.out];exact prime_no ⟨q,by omega⟩ ⟨i,by omega⟩ hi1 hlt h0
    generalize i*i=s at e1 hlt hii
    generalize q % i=m at e2 h0
    subst h0
    have hsI:(s:Int)≤(q:Int):=by omega
    go_wp2_with fail
    refine bodyPost_ret (v := .bool false) ?_ rfl ⟨by rw[HN.out],Below.refl _ _⟩
    simp[results,Tryz.f215,go_sem]
   ·have HN:Hid (∀j:Fin 6,2≤j.val→j.val<i+1→q % j.val≠0):=fun j h1 h2=>by
     by_cases e:j.val=i
     ·rw[e];exact h0
     ·exact hno.out j h1 (by omega)
    generalize i*i=s at e1 hlt hii
    generalize q % i=m at e2 h0 hm
    have hsI:(s:Int)≤(q:Int):=by omega
    have hmI:¬(m:Int)=0:=by omega
    go_wp2_with fail
    go_roundw
    case rel=>exact ⟨i+1,by omega,by omega,by go_num,HN,trivial⟩
    case measure=>simp[intOf];omega
  ·have HN:Hid (R=decide (2≤q)):=by unfold Hid;rw[HR.out];exact prime_end ⟨q,by omega⟩ ⟨i,by omega⟩ hi1 (fun j h1 h2=>hno.out j h1 h2) (by show q<i*i;omega)
   have HD:Hid (decide ((2:Int)≤(q:Int))=decide (2≤q)):=by unfold Hid;rw[Bool.eq_iff_iff,decide_eq_true_eq,decide_eq_true_eq];omega
   generalize i*i=s at e1 hlt hii
   have hsI:¬(s:Int)≤(q:Int):=by omega
   go_wp2_with fail
   refine bodyPost_ret (v := .bool (decide ((2:Int)≤(q:Int)))) ?_ rfl ⟨by rw[HN.out,HD.out],Below.refl _ _⟩
   simp[results,Tryz.f215,go_sem]
theorem isprime2_c (q:Nat) (w:World) (hq:q≤16) :
  Calls Tryz.prog 200 #[.int .i64 (q:Int)] w fun e w'=>e = .returned (.tuple #[.bool (primeB q),.int .i64 0])∧Below w.heap.size w w':=by
 have HP:=Lib.hid (isprime_c q w hq)
 generalize primeB q=R at HP ⊢
 have h1:¬(q:Int)<0:=by omega
 have h2:¬(999999999:Int)<(q:Int):=by omega
 go_enter Tryz.func200,Tryz.ntmps200
 go_wp2_with (first|(go_at_call 215;refine HP.out.mono ?_;rintro _ w5 ⟨rfl,hb5⟩)|fail)
 refine bodyPost_ret (v := .tuple #[.bool R,.int .i64 0]) ?_ rfl ⟨rfl,hb5⟩
 simp[results,Tryz.f200,go_sem]
end
end Go.Proofs.YtmfpdakaeagdpaaGreat
