/- Texts J82 to J98 of this proof, in one file. -/
import Derived.Test.YtpkghjoippcjeaaW01
import Derived.Test.YtpkghjoippcjeaaW02
import Derived.Test.YtpkghjoippcjeaaW03
import Derived.Test.YtpkghjoippcjeaaW04
import Derived.Test.YtpkghjoippcjeaaW06
import Derived.Test.YtpkghjoippcjeaaW10
import Derived.Test.YtpkghjoippcjeaaW11
import Derived.Test.YtpkghjoippcjeaaW12
import Derived.RangeFuncBox
import Derived.RangeFuncLeaves
import Derived.RangeFuncWrites
namespace Go.Proofs.Ytpkghjoippcjeaa
set_option maxRecDepth 100000
set_option maxHeartbeats 16000000
section
open Go Go.RowKit
attribute [local go_sem] over_cell
attribute [local go_sem] Oper.semAt_some
theorem enterKG1:∀args w,Sem.run Try.prog (callFunc 83 args) w = .ok (.enter 83 args) w:=by
 intro args w;kernel_rfl
theorem kg_c (N:Nat) (a:Option Addr) (m c:Nat) (cs:List Int) (w:World) (h:IC w a m cs) (hcap:m≤c) (L:Latin N cs) :
  Calls Try.prog 68 #[.agg #[.int .i64 (N:Int),.int .i64 (N:Int),.slice a m c]] w fun e w'=>e = .returned (.bool (kGrp N cs))∧Below w.heap.size w w':=by
 have HM:=Lib.hid (fun W (hb:Below w.heap.size w W)=>reduced_c N a m c cs W (h.mono hb) hcap L)
 have HI:=Lib.hid h
 have hN2:=L.le
 have LR:=redu_latin (x := -1) L
 have hNN:N*N≤16*16:=Nat.mul_le_mul hN2 hN2
 have hNNN:N*N*N≤16*16*16:=Nat.mul_le_mul hNN hN2
 have hrl:(reduL (-1) N cs).length≤17592186044416:=by rw[LR.len];omega
 have hmu:(N:Int)*(N:Int)=((N*N:Nat):Int)∧((N*N:Nat):Int)*(N:Int)=((N*N*N:Nat):Int):=⟨(Int.natCast_mul _ _).symm,(Int.natCast_mul _ _).symm⟩
 have HD:Hid (kGrp N cs=(List.range (N*N*N)).all fun k=>symM N (reduL (-1) N cs) (symM N (reduL (-1) N cs) (k / N / N) (k / N % N)) (k % N)==symM N (reduL (-1) N cs) (k / N / N) (symM N (reduL (-1) N cs) (k / N % N) (k % N))):=rfl
 generalize reduL (-1) N cs=rs at HM HD LR hrl
 have HLR:=Lib.hid LR
 clear h L LR
 go_enter Try.func68,Try.ntmps68
 go_upto_region 1 with fail
 have fB:Below w.heap.size w (w.alloc (.cells #[.int .i64 (N:Int),.int .i64 (N:Int),.slice a m c] 31)):=(Below.refl _ _).alloc (Nat.le_refl _) _
 have FQ:Hid ((w.alloc (.cells #[.int .i64 (N:Int),.int .i64 (N:Int),.slice a m c] 31)).heap[w.heap.size]?=some (.cells #[.int .i64 (N:Int),.int .i64 (N:Int),.slice a m c] 31 (0,0))):=World.alloc_heap_new _ _
 generalize (w.alloc (.cells #[.int .i64 (N:Int),.int .i64 (N:Int),.slice a m c] 31))=W0 at fB FQ ⊢
 obtain ⟨x0,x1,x2,xl⟩:=c3_of FQ.out
 refine wp_region_tree3 (fun w'=>∃u,w'=over (W0) u) [7] (.fork3 [0,2,3] 1 4 5 (.fork [] 4 5 (.leaf [(1,5),(1,6),(2,7)]) (.leaf [(1,4),(1,6),(2,7)])) (.fork [] 1 5 (.leaf [(1,5),(1,6),(2,7)]) (.leaf [(1,1),(1,6),(2,7)])) (.fork [] 1 4 (.leaf [(1,4),(1,6),(2,7)]) (.leaf [(1,1),(1,6),(2,7)]))) (by kernel_rfl) (by kernel_rfl) (by exact ⟨_,below_over (by repeat (first|assumption|exact Below.refl _ _|refine keep_drew ?_|refine keep_alloc ?_ _|refine keep_trans ?_ (by assumption)))⟩) ?_
 all_goals try (first|(refine ⟨?_,?_,?_⟩ <;> dsimp only[List.map,List.cons_append,List.nil_append,pickOps,nthOp])|(refine ⟨?_,?_⟩ <;> dsimp only[List.map,List.cons_append,List.nil_append,pickOps,nthOp]))
 all_goals repeat (first|(refine wpS_skip rfl (fun K hK=>?_);go_big_quiet_op;refine hK _ ?_;clear hK K)|(refine wpS_quiet rfl rfl (fun K hK=>?_);go_big_quiet_op;refine hK _ ?_;clear hK K)|(refine wpS_loud ?_;go_wp2_with (first|(go_at_call 51;refine (HM.out _ (keep_trans fB (by (repeat (first|assumption|exact Below.refl _ _|refine keep_drew ?_|refine keep_alloc ?_ _|refine keep_trans ?_ (by assumption)))))).mono ?_;rintro _ w1 ⟨a2,c2,rfl,hown2,hb2⟩;have hz1:W0.heap.size≤w1.heap.size:=Nat.le_trans (by simp <;> omega) hb2.size;(try (have g:=(show w1.heap[W0.heap.size]?=some (.cells #[.int .i64 0,.int .i64 0,.slice none 0 0] 31 (0,0)) from keepq hb2 (by first|exact World.alloc_heap_new _ _|(have h:=World.alloc_heap_new (W0.alloc (.cells #[.int .i64 0] 3)) (.cells #[.int .i64 0,.int .i64 0,.slice none 0 0] 31);simp only[World.size_alloc] at h;exact h)|(have h:=World.alloc_heap_new (W0.alloc (.cells #[.int .i64 0,.int .i64 0,.slice none 0 0] 31)) (.cells #[.int .i64 0] 3);simp only[World.size_alloc] at h;exact h)|exact (Below.heap_alloc _ _ _ (by simp only[World.size_alloc];omega)).trans (World.alloc_heap_new _ _)));obtain ⟨gc0,gc1,gc2,gcl⟩:=c3_of g;obtain ⟨gf0,gf1,gf2⟩:=f3_of g));(try (have i:=(show w1.heap[W0.heap.size]?=some (.cells #[.int .i64 0] 3 (0,0)) from keepq hb2 (by first|exact World.alloc_heap_new _ _|(have h:=World.alloc_heap_new (W0.alloc (.cells #[.int .i64 0] 3)) (.cells #[.int .i64 0,.int .i64 0,.slice none 0 0] 31);simp only[World.size_alloc] at h;exact h)|(have h:=World.alloc_heap_new (W0.alloc (.cells #[.int .i64 0,.int .i64 0,.slice none 0 0] 31)) (.cells #[.int .i64 0] 3);simp only[World.size_alloc] at h;exact h)|exact (Below.heap_alloc _ _ _ (by simp only[World.size_alloc];omega)).trans (World.alloc_heap_new _ _)));obtain ⟨ic0,if0,icl⟩:=c1_of i));(try (have g:=(show w1.heap[W0.heap.size+1]?=some (.cells #[.int .i64 0,.int .i64 0,.slice none 0 0] 31 (0,0)) from keepq hb2 (by first|exact World.alloc_heap_new _ _|(have h:=World.alloc_heap_new (W0.alloc (.cells #[.int .i64 0] 3)) (.cells #[.int .i64 0,.int .i64 0,.slice none 0 0] 31);simp only[World.size_alloc] at h;exact h)|(have h:=World.alloc_heap_new (W0.alloc (.cells #[.int .i64 0,.int .i64 0,.slice none 0 0] 31)) (.cells #[.int .i64 0] 3);simp only[World.size_alloc] at h;exact h)|exact (Below.heap_alloc _ _ _ (by simp only[World.size_alloc];omega)).trans (World.alloc_heap_new _ _)));obtain ⟨gc0,gc1,gc2,gcl⟩:=c3_of g;obtain ⟨gf0,gf1,gf2⟩:=f3_of g));(try (have i:=(show w1.heap[W0.heap.size+1]?=some (.cells #[.int .i64 0] 3 (0,0)) from keepq hb2 (by first|exact World.alloc_heap_new _ _|(have h:=World.alloc_heap_new (W0.alloc (.cells #[.int .i64 0] 3)) (.cells #[.int .i64 0,.int .i64 0,.slice none 0 0] 31);simp only[World.size_alloc] at h;exact h)|(have h:=World.alloc_heap_new (W0.alloc (.cells #[.int .i64 0,.int .i64 0,.slice none 0 0] 31)) (.cells #[.int .i64 0] 3);simp only[World.size_alloc] at h;exact h)|exact (Below.heap_alloc _ _ _ (by simp only[World.size_alloc];omega)).trans (World.alloc_heap_new _ _)));obtain ⟨ic0,if0,icl⟩:=c1_of i)))|fail);refine ⟨?_,?_⟩;focus (exact ⟨_,below_over (by repeat (first|assumption|exact Below.refl _ _|refine keep_drew ?_|refine keep_alloc ?_ _|refine keep_set ?_ (by first|omega|(dsimp only;omega)) _|refine keep_trans ?_ (by assumption)))⟩)))
 all_goals try refine wpTr_end ?_
 all_goals try (first|(refine ⟨?_,?_,?_⟩ <;> dsimp only[List.map,List.cons_append,List.nil_append,pickOps,nthOp])|(refine ⟨?_,?_⟩ <;> dsimp only[List.map,List.cons_append,List.nil_append,pickOps,nthOp]))
 all_goals repeat (first|(refine wpS_skip rfl (fun K hK=>?_);go_big_quiet_op;refine hK _ ?_;clear hK K)|(refine wpS_quiet rfl rfl (fun K hK=>?_);go_big_quiet_op;refine hK _ ?_;clear hK K)|(refine wpS_loud ?_;go_wp2_with (first|(go_at_call 51;refine (HM.out _ (keep_trans fB (by (repeat (first|assumption|exact Below.refl _ _|refine keep_drew ?_|refine keep_alloc ?_ _|refine keep_trans ?_ (by assumption)))))).mono ?_;rintro _ w1 ⟨a2,c2,rfl,hown2,hb2⟩;have hz1:W0.heap.size≤w1.heap.size:=Nat.le_trans (by simp <;> omega) hb2.size;(try (have g:=(show w1.heap[W0.heap.size]?=some (.cells #[.int .i64 0,.int .i64 0,.slice none 0 0] 31 (0,0)) from keepq hb2 (by first|exact World.alloc_heap_new _ _|(have h:=World.alloc_heap_new (W0.alloc (.cells #[.int .i64 0] 3)) (.cells #[.int .i64 0,.int .i64 0,.slice none 0 0] 31);simp only[World.size_alloc] at h;exact h)|(have h:=World.alloc_heap_new (W0.alloc (.cells #[.int .i64 0,.int .i64 0,.slice none 0 0] 31)) (.cells #[.int .i64 0] 3);simp only[World.size_alloc] at h;exact h)|exact (Below.heap_alloc _ _ _ (by simp only[World.size_alloc];omega)).trans (World.alloc_heap_new _ _)));obtain ⟨gc0,gc1,gc2,gcl⟩:=c3_of g;obtain ⟨gf0,gf1,gf2⟩:=f3_of g));(try (have i:=(show w1.heap[W0.heap.size]?=some (.cells #[.int .i64 0] 3 (0,0)) from keepq hb2 (by first|exact World.alloc_heap_new _ _|(have h:=World.alloc_heap_new (W0.alloc (.cells #[.int .i64 0] 3)) (.cells #[.int .i64 0,.int .i64 0,.slice none 0 0] 31);simp only[World.size_alloc] at h;exact h)|(have h:=World.alloc_heap_new (W0.alloc (.cells #[.int .i64 0,.int .i64 0,.slice none 0 0] 31)) (.cells #[.int .i64 0] 3);simp only[World.size_alloc] at h;exact h)|exact (Below.heap_alloc _ _ _ (by simp only[World.size_alloc];omega)).trans (World.alloc_heap_new _ _)));obtain ⟨ic0,if0,icl⟩:=c1_of i));(try (have g:=(show w1.heap[W0.heap.size+1]?=some (.cells #[.int .i64 0,.int .i64 0,.slice none 0 0] 31 (0,0)) from keepq hb2 (by first|exact World.alloc_heap_new _ _|(have h:=World.alloc_heap_new (W0.alloc (.cells #[.int .i64 0] 3)) (.cells #[.int .i64 0,.int .i64 0,.slice none 0 0] 31);simp only[World.size_alloc] at h;exact h)|(have h:=World.alloc_heap_new (W0.alloc (.cells #[.int .i64 0,.int .i64 0,.slice none 0 0] 31)) (.cells #[.int .i64 0] 3);simp only[World.size_alloc] at h;exact h)|exact (Below.heap_alloc _ _ _ (by simp only[World.size_alloc];omega)).trans (World.alloc_heap_new _ _)));obtain ⟨gc0,gc1,gc2,gcl⟩:=c3_of g;obtain ⟨gf0,gf1,gf2⟩:=f3_of g));(try (have i:=(show w1.heap[W0.heap.size+1]?=some (.cells #[.int .i64 0] 3 (0,0)) from keepq hb2 (by first|exact World.alloc_heap_new _ _|(have h:=World.alloc_heap_new (W0.alloc (.cells #[.int .i64 0] 3)) (.cells #[.int .i64 0,.int .i64 0,.slice none 0 0] 31);simp only[World.size_alloc] at h;exact h)|(have h:=World.alloc_heap_new (W0.alloc (.cells #[.int .i64 0,.int .i64 0,.slice none 0 0] 31)) (.cells #[.int .i64 0] 3);simp only[World.size_alloc] at h;exact h)|exact (Below.heap_alloc _ _ _ (by simp only[World.size_alloc];omega)).trans (World.alloc_heap_new _ _)));obtain ⟨ic0,if0,icl⟩:=c1_of i)))|fail);refine ⟨?_,?_⟩;focus (exact ⟨_,below_over (by repeat (first|assumption|exact Below.refl _ _|refine keep_drew ?_|refine keep_alloc ?_ _|refine keep_set ?_ (by first|omega|(dsimp only;omega)) _|refine keep_trans ?_ (by assumption)))⟩)))
 all_goals try refine wpTr_end ?_
 all_goals try dsimp only[wpTr3,pickOps,nthOp]
 all_goals repeat (first|(refine wpS_skip rfl (fun K hK=>?_);go_big_quiet_op;refine hK _ ?_;clear hK K)|(refine wpS_quiet rfl rfl (fun K hK=>?_);go_big_quiet_op;refine hK _ ?_;clear hK K)|(refine wpS_loud ?_;go_wp2_with (first|(go_at_call 51;refine (HM.out _ (keep_trans fB (by (repeat (first|assumption|exact Below.refl _ _|refine keep_drew ?_|refine keep_alloc ?_ _|refine keep_trans ?_ (by assumption)))))).mono ?_;rintro _ w1 ⟨a2,c2,rfl,hown2,hb2⟩;have hz1:W0.heap.size≤w1.heap.size:=Nat.le_trans (by simp <;> omega) hb2.size;(try (have g:=(show w1.heap[W0.heap.size]?=some (.cells #[.int .i64 0,.int .i64 0,.slice none 0 0] 31 (0,0)) from keepq hb2 (by first|exact World.alloc_heap_new _ _|(have h:=World.alloc_heap_new (W0.alloc (.cells #[.int .i64 0] 3)) (.cells #[.int .i64 0,.int .i64 0,.slice none 0 0] 31);simp only[World.size_alloc] at h;exact h)|(have h:=World.alloc_heap_new (W0.alloc (.cells #[.int .i64 0,.int .i64 0,.slice none 0 0] 31)) (.cells #[.int .i64 0] 3);simp only[World.size_alloc] at h;exact h)|exact (Below.heap_alloc _ _ _ (by simp only[World.size_alloc];omega)).trans (World.alloc_heap_new _ _)));obtain ⟨gc0,gc1,gc2,gcl⟩:=c3_of g;obtain ⟨gf0,gf1,gf2⟩:=f3_of g));(try (have i:=(show w1.heap[W0.heap.size]?=some (.cells #[.int .i64 0] 3 (0,0)) from keepq hb2 (by first|exact World.alloc_heap_new _ _|(have h:=World.alloc_heap_new (W0.alloc (.cells #[.int .i64 0] 3)) (.cells #[.int .i64 0,.int .i64 0,.slice none 0 0] 31);simp only[World.size_alloc] at h;exact h)|(have h:=World.alloc_heap_new (W0.alloc (.cells #[.int .i64 0,.int .i64 0,.slice none 0 0] 31)) (.cells #[.int .i64 0] 3);simp only[World.size_alloc] at h;exact h)|exact (Below.heap_alloc _ _ _ (by simp only[World.size_alloc];omega)).trans (World.alloc_heap_new _ _)));obtain ⟨ic0,if0,icl⟩:=c1_of i));(try (have g:=(show w1.heap[W0.heap.size+1]?=some (.cells #[.int .i64 0,.int .i64 0,.slice none 0 0] 31 (0,0)) from keepq hb2 (by first|exact World.alloc_heap_new _ _|(have h:=World.alloc_heap_new (W0.alloc (.cells #[.int .i64 0] 3)) (.cells #[.int .i64 0,.int .i64 0,.slice none 0 0] 31);simp only[World.size_alloc] at h;exact h)|(have h:=World.alloc_heap_new (W0.alloc (.cells #[.int .i64 0,.int .i64 0,.slice none 0 0] 31)) (.cells #[.int .i64 0] 3);simp only[World.size_alloc] at h;exact h)|exact (Below.heap_alloc _ _ _ (by simp only[World.size_alloc];omega)).trans (World.alloc_heap_new _ _)));obtain ⟨gc0,gc1,gc2,gcl⟩:=c3_of g;obtain ⟨gf0,gf1,gf2⟩:=f3_of g));(try (have i:=(show w1.heap[W0.heap.size+1]?=some (.cells #[.int .i64 0] 3 (0,0)) from keepq hb2 (by first|exact World.alloc_heap_new _ _|(have h:=World.alloc_heap_new (W0.alloc (.cells #[.int .i64 0] 3)) (.cells #[.int .i64 0,.int .i64 0,.slice none 0 0] 31);simp only[World.size_alloc] at h;exact h)|(have h:=World.alloc_heap_new (W0.alloc (.cells #[.int .i64 0,.int .i64 0,.slice none 0 0] 31)) (.cells #[.int .i64 0] 3);simp only[World.size_alloc] at h;exact h)|exact (Below.heap_alloc _ _ _ (by simp only[World.size_alloc];omega)).trans (World.alloc_heap_new _ _)));obtain ⟨ic0,if0,icl⟩:=c1_of i)))|fail);refine ⟨?_,?_⟩;focus (exact ⟨_,below_over (by repeat (first|assumption|exact Below.refl _ _|refine keep_drew ?_|refine keep_alloc ?_ _|refine keep_set ?_ (by first|omega|(dsimp only;omega)) _|refine keep_trans ?_ (by assumption)))⟩)))
 all_goals refine wpS_late _ _ _ rfl ?_
 all_goals dsimp only[List.map]
 ·have qg:((w1.alloc (.cells #[.int .i64 (N:Int),.int .i64 (N:Int),.slice a2 rs.length c2] 31)).alloc (.cells #[.int .i64 0] 3)).heap[w1.heap.size]?=some (.cells #[.int .i64 (N:Int),.int .i64 (N:Int),.slice a2 rs.length c2] 31 (0,0)):=(Below.heap_alloc _ _ _ (by simp)).trans (World.alloc_heap_new _ _)
  have qi:((w1.alloc (.cells #[.int .i64 (N:Int),.int .i64 (N:Int),.slice a2 rs.length c2] 31)).alloc (.cells #[.int .i64 0] 3)).heap[w1.heap.size+1]?=some (.cells #[.int .i64 0] 3 (0,0)):=(by have h:=World.alloc_heap_new (w1.alloc (.cells #[.int .i64 (N:Int),.int .i64 (N:Int),.slice a2 rs.length c2] 31)) (.cells #[.int .i64 0] 3);simp only[World.size_alloc] at h;exact h)
  have hown:((w1.alloc (.cells #[.int .i64 (N:Int),.int .i64 (N:Int),.slice a2 rs.length c2] 31)).alloc (.cells #[.int .i64 0] 3)).ownsRow W0.heap.size 3 1 (.slice a2 rs.length c2) rs.length (rs.map (Value.int .i64)):=owns_base ((hown2.alloc _).alloc _) (by simp <;> omega)
  have hbl:Below W0.heap.size W0 ((w1.alloc (.cells #[.int .i64 (N:Int),.int .i64 (N:Int),.slice a2 rs.length c2] 31)).alloc (.cells #[.int .i64 0] 3)):=keep_alloc (keep_alloc (show Below W0.heap.size W0 w1 by (repeat (first|assumption|exact Below.refl _ _|refine keep_drew ?_|refine keep_alloc ?_ _|refine keep_trans ?_ (by assumption)))) _) _
  have hne:w1.heap.size≠w1.heap.size+1:=by omega
  have hl4:W0.heap.size≤w1.heap.size+1:=by omega
  generalize ((w1.alloc (.cells #[.int .i64 (N:Int),.int .i64 (N:Int),.slice a2 rs.length c2] 31)).alloc (.cells #[.int .i64 0] 3))=WF at qg qi hown hbl ⊢
  obtain ⟨v0,vf,vl⟩:=c1_of qi
  have hnb:(Value.slice a2 rs.length c2).ownBlock≠some (w1.heap.size+1):=fun e=>absurd (hown2.lt _ e).2 (by omega)
  have qi5:=q_set (i:=0) qi (.int .i64 (N:Int))
  have qg5:=q_other (i:=0) qg hne (.int .i64 (N:Int))
  have hown5:=ownsRow_setCell_other (a:=⟨w1.heap.size+1,0,none⟩) hown hnb (.int .i64 (N:Int))
  have hbl5:=keep_set (p:=⟨w1.heap.size+1,0,none⟩) hbl hl4 (.int .i64 (N:Int))
  go_wp2_with fail
  refine NoPanic.normal ?_
  generalize (WF.setCell ⟨w1.heap.size+1,0,none⟩ (.int .i64 (N:Int)))=W5 at qi5 qg5 hown5 hbl5 ⊢
  obtain ⟨v0,vf,vl⟩:=c1_of qi5
  have HI5:=(IC.of_owns hown5 hrl).1
  have hEV:=every_c (N*N*N) (by omega) 83 #[] #[.pointer (some ⟨w1.heap.size+1,0,none⟩),.pointer (some ⟨w1.heap.size,0,none⟩)] (fun k=>symM N rs (symM N rs (k / N / N) (k / N % N)) (k % N)==symM N rs (k / N / N) (symM N rs (k / N % N) (k % N))) (fun _ W=>Below W5.heap.size W5 W) W5 enterKG1 (Below.refl _ _) (fun k hk W hb=>by
   refine (kg1_c N k (w1.heap.size) (w1.heap.size+1) a2 rs.length c2 rs W (HI5.mono hb) HLR.out hk (keepq hb qg5) (keepq hb qi5)).mono ?_
   rintro e w' ⟨rfl,hb'⟩
   exact ⟨rfl,keep_trans hb hb'⟩)
  rw[← HD.out] at hEV
  have HEV:=Lib.hid hEV
  have HB5:=Lib.hid (keep_trans fB hbl5)
  clear hEV qg qi hown hbl qi5 qg5 hown5 HI5 hbl5 hnb
  obtain ⟨e1,e2⟩:=hmu
  clear HD
  generalize N*N*N=s3 at HEV e2 hNNN
  generalize N*N=s2 at e1 e2 hNN
  go_wp2_with (first|(go_at_call 53;refine HEV.out.mono ?_;rintro _ w6 ⟨rfl,k,hb6⟩)|fail)
  refine bodyPost_ret (v := .bool (kGrp N cs)) ?_ rfl ⟨rfl,keep_trans HB5.out hb6⟩
  simp[results,Try.f68,go_sem]
 ·have qg:((w1.alloc (.cells #[.int .i64 0] 3)).alloc (.cells #[.int .i64 (N:Int),.int .i64 (N:Int),.slice a2 rs.length c2] 31)).heap[w1.heap.size+1]?=some (.cells #[.int .i64 (N:Int),.int .i64 (N:Int),.slice a2 rs.length c2] 31 (0,0)):=(by have h:=World.alloc_heap_new (w1.alloc (.cells #[.int .i64 0] 3)) (.cells #[.int .i64 (N:Int),.int .i64 (N:Int),.slice a2 rs.length c2] 31);simp only[World.size_alloc] at h;exact h)
  have qi:((w1.alloc (.cells #[.int .i64 0] 3)).alloc (.cells #[.int .i64 (N:Int),.int .i64 (N:Int),.slice a2 rs.length c2] 31)).heap[w1.heap.size]?=some (.cells #[.int .i64 0] 3 (0,0)):=(Below.heap_alloc _ _ _ (by simp)).trans (World.alloc_heap_new _ _)
  have hown:((w1.alloc (.cells #[.int .i64 0] 3)).alloc (.cells #[.int .i64 (N:Int),.int .i64 (N:Int),.slice a2 rs.length c2] 31)).ownsRow W0.heap.size 3 1 (.slice a2 rs.length c2) rs.length (rs.map (Value.int .i64)):=owns_base ((hown2.alloc _).alloc _) (by simp <;> omega)
  have hbl:Below W0.heap.size W0 ((w1.alloc (.cells #[.int .i64 0] 3)).alloc (.cells #[.int .i64 (N:Int),.int .i64 (N:Int),.slice a2 rs.length c2] 31)):=keep_alloc (keep_alloc (show Below W0.heap.size W0 w1 by (repeat (first|assumption|exact Below.refl _ _|refine keep_drew ?_|refine keep_alloc ?_ _|refine keep_trans ?_ (by assumption)))) _) _
  have hne:w1.heap.size+1≠w1.heap.size:=by omega
  have hl4:W0.heap.size≤w1.heap.size:=by omega
  generalize ((w1.alloc (.cells #[.int .i64 0] 3)).alloc (.cells #[.int .i64 (N:Int),.int .i64 (N:Int),.slice a2 rs.length c2] 31))=WF at qg qi hown hbl ⊢
  obtain ⟨v0,vf,vl⟩:=c1_of qi
  have hnb:(Value.slice a2 rs.length c2).ownBlock≠some (w1.heap.size):=fun e=>absurd (hown2.lt _ e).2 (by omega)
  have qi5:=q_set (i:=0) qi (.int .i64 (N:Int))
  have qg5:=q_other (i:=0) qg hne (.int .i64 (N:Int))
  have hown5:=ownsRow_setCell_other (a:=⟨w1.heap.size,0,none⟩) hown hnb (.int .i64 (N:Int))
  have hbl5:=keep_set (p:=⟨w1.heap.size,0,none⟩) hbl hl4 (.int .i64 (N:Int))
  go_wp2_with fail
  refine NoPanic.normal ?_
  generalize (WF.setCell ⟨w1.heap.size,0,none⟩ (.int .i64 (N:Int)))=W5 at qi5 qg5 hown5 hbl5 ⊢
  obtain ⟨v0,vf,vl⟩:=c1_of qi5
  have HI5:=(IC.of_owns hown5 hrl).1
  have hEV:=every_c (N*N*N) (by omega) 83 #[] #[.pointer (some ⟨w1.heap.size,0,none⟩),.pointer (some ⟨w1.heap.size+1,0,none⟩)] (fun k=>symM N rs (symM N rs (k / N / N) (k / N % N)) (k % N)==symM N rs (k / N / N) (symM N rs (k / N % N) (k % N))) (fun _ W=>Below W5.heap.size W5 W) W5 enterKG1 (Below.refl _ _) (fun k hk W hb=>by
   refine (kg1_c N k (w1.heap.size+1) (w1.heap.size) a2 rs.length c2 rs W (HI5.mono hb) HLR.out hk (keepq hb qg5) (keepq hb qi5)).mono ?_
   rintro e w' ⟨rfl,hb'⟩
   exact ⟨rfl,keep_trans hb hb'⟩)
  rw[← HD.out] at hEV
  have HEV:=Lib.hid hEV
  have HB5:=Lib.hid (keep_trans fB hbl5)
  clear hEV qg qi hown hbl qi5 qg5 hown5 HI5 hbl5 hnb
  obtain ⟨e1,e2⟩:=hmu
  clear HD
  generalize N*N*N=s3 at HEV e2 hNNN
  generalize N*N=s2 at e1 e2 hNN
  go_wp2_with (first|(go_at_call 53;refine HEV.out.mono ?_;rintro _ w6 ⟨rfl,k,hb6⟩)|fail)
  refine bodyPost_ret (v := .bool (kGrp N cs)) ?_ rfl ⟨rfl,keep_trans HB5.out hb6⟩
  simp[results,Try.f68,go_sem]
 ·have qg:((((w1.setCell ⟨W0.heap.size,0,none⟩ (.int .i64 (N:Int))).setCell ⟨W0.heap.size,1,none⟩ (.int .i64 (N:Int))).setCell ⟨W0.heap.size,2,none⟩ (.slice a2 rs.length c2)).alloc (.cells #[.int .i64 0] 3)).heap[W0.heap.size]?=some (.cells #[.int .i64 (N:Int),.int .i64 (N:Int),.slice a2 rs.length c2] 31 (0,0)):=(Below.heap_alloc _ _ _ (by simp <;> omega)).trans (st3_q g)
  have qi:((((w1.setCell ⟨W0.heap.size,0,none⟩ (.int .i64 (N:Int))).setCell ⟨W0.heap.size,1,none⟩ (.int .i64 (N:Int))).setCell ⟨W0.heap.size,2,none⟩ (.slice a2 rs.length c2)).alloc (.cells #[.int .i64 0] 3)).heap[w1.heap.size]?=some (.cells #[.int .i64 0] 3 (0,0)):=(by have h:=World.alloc_heap_new (((w1.setCell ⟨W0.heap.size,0,none⟩ (.int .i64 (N:Int))).setCell ⟨W0.heap.size,1,none⟩ (.int .i64 (N:Int))).setCell ⟨W0.heap.size,2,none⟩ (.slice a2 rs.length c2)) (.cells #[.int .i64 0] 3);simp only[World.size_setCell] at h;exact h)
  have hown:((((w1.setCell ⟨W0.heap.size,0,none⟩ (.int .i64 (N:Int))).setCell ⟨W0.heap.size,1,none⟩ (.int .i64 (N:Int))).setCell ⟨W0.heap.size,2,none⟩ (.slice a2 rs.length c2)).alloc (.cells #[.int .i64 0] 3)).ownsRow W0.heap.size 3 1 (.slice a2 rs.length c2) rs.length (rs.map (Value.int .i64)):=owns_base ((st3_own hown2 (fun e=>by have:=(hown2.lt _ e).1;simp at this <;> omega)).alloc _) (by simp <;> omega)
  have hbl:Below W0.heap.size W0 ((((w1.setCell ⟨W0.heap.size,0,none⟩ (.int .i64 (N:Int))).setCell ⟨W0.heap.size,1,none⟩ (.int .i64 (N:Int))).setCell ⟨W0.heap.size,2,none⟩ (.slice a2 rs.length c2)).alloc (.cells #[.int .i64 0] 3)):=keep_alloc (st3_below (show Below W0.heap.size W0 w1 by (repeat (first|assumption|exact Below.refl _ _|refine keep_drew ?_|refine keep_alloc ?_ _|refine keep_trans ?_ (by assumption)))) (Nat.le_refl _)) _
  have hne:W0.heap.size≠w1.heap.size:=by omega
  have hl4:W0.heap.size≤w1.heap.size:=by omega
  generalize ((((w1.setCell ⟨W0.heap.size,0,none⟩ (.int .i64 (N:Int))).setCell ⟨W0.heap.size,1,none⟩ (.int .i64 (N:Int))).setCell ⟨W0.heap.size,2,none⟩ (.slice a2 rs.length c2)).alloc (.cells #[.int .i64 0] 3))=WF at qg qi hown hbl ⊢
  obtain ⟨v0,vf,vl⟩:=c1_of qi
  have hnb:(Value.slice a2 rs.length c2).ownBlock≠some (w1.heap.size):=fun e=>absurd (hown2.lt _ e).2 (by omega)
  have qi5:=q_set (i:=0) qi (.int .i64 (N:Int))
  have qg5:=q_other (i:=0) qg hne (.int .i64 (N:Int))
  have hown5:=ownsRow_setCell_other (a:=⟨w1.heap.size,0,none⟩) hown hnb (.int .i64 (N:Int))
  have hbl5:=keep_set (p:=⟨w1.heap.size,0,none⟩) hbl hl4 (.int .i64 (N:Int))
  go_wp2_with fail
  refine NoPanic.normal ?_
  generalize (WF.setCell ⟨w1.heap.size,0,none⟩ (.int .i64 (N:Int)))=W5 at qi5 qg5 hown5 hbl5 ⊢
  obtain ⟨v0,vf,vl⟩:=c1_of qi5
  have HI5:=(IC.of_owns hown5 hrl).1
  have hEV:=every_c (N*N*N) (by omega) 83 #[] #[.pointer (some ⟨w1.heap.size,0,none⟩),.pointer (some ⟨W0.heap.size,0,none⟩)] (fun k=>symM N rs (symM N rs (k / N / N) (k / N % N)) (k % N)==symM N rs (k / N / N) (symM N rs (k / N % N) (k % N))) (fun _ W=>Below W5.heap.size W5 W) W5 enterKG1 (Below.refl _ _) (fun k hk W hb=>by
   refine (kg1_c N k (W0.heap.size) (w1.heap.size) a2 rs.length c2 rs W (HI5.mono hb) HLR.out hk (keepq hb qg5) (keepq hb qi5)).mono ?_
   rintro e w' ⟨rfl,hb'⟩
   exact ⟨rfl,keep_trans hb hb'⟩)
  rw[← HD.out] at hEV
  have HEV:=Lib.hid hEV
  have HB5:=Lib.hid (keep_trans fB hbl5)
  clear hEV qg qi hown hbl qi5 qg5 hown5 HI5 hbl5 hnb
  obtain ⟨e1,e2⟩:=hmu
  clear HD
  generalize N*N*N=s3 at HEV e2 hNNN
  generalize N*N=s2 at e1 e2 hNN
  go_wp2_with (first|(go_at_call 53;refine HEV.out.mono ?_;rintro _ w6 ⟨rfl,k,hb6⟩)|fail)
  refine bodyPost_ret (v := .bool (kGrp N cs)) ?_ rfl ⟨rfl,keep_trans HB5.out hb6⟩
  simp[results,Try.f68,go_sem]
 ·have qg:((((w1.setCell ⟨W0.heap.size,0,none⟩ (.int .i64 (N:Int))).setCell ⟨W0.heap.size,1,none⟩ (.int .i64 (N:Int))).setCell ⟨W0.heap.size,2,none⟩ (.slice a2 rs.length c2))).heap[W0.heap.size]?=some (.cells #[.int .i64 (N:Int),.int .i64 (N:Int),.slice a2 rs.length c2] 31 (0,0)):=st3_q g
  have qi:((((w1.setCell ⟨W0.heap.size,0,none⟩ (.int .i64 (N:Int))).setCell ⟨W0.heap.size,1,none⟩ (.int .i64 (N:Int))).setCell ⟨W0.heap.size,2,none⟩ (.slice a2 rs.length c2))).heap[W0.heap.size+1]?=some (.cells #[.int .i64 0] 3 (0,0)):=q_other (q_other (q_other i (by omega) _) (by omega) _) (by omega) _
  have hown:((((w1.setCell ⟨W0.heap.size,0,none⟩ (.int .i64 (N:Int))).setCell ⟨W0.heap.size,1,none⟩ (.int .i64 (N:Int))).setCell ⟨W0.heap.size,2,none⟩ (.slice a2 rs.length c2))).ownsRow W0.heap.size 3 1 (.slice a2 rs.length c2) rs.length (rs.map (Value.int .i64)):=owns_base (st3_own hown2 (fun e=>by have:=(hown2.lt _ e).1;simp at this <;> omega)) (by simp <;> omega)
  have hbl:Below W0.heap.size W0 ((((w1.setCell ⟨W0.heap.size,0,none⟩ (.int .i64 (N:Int))).setCell ⟨W0.heap.size,1,none⟩ (.int .i64 (N:Int))).setCell ⟨W0.heap.size,2,none⟩ (.slice a2 rs.length c2))):=st3_below (show Below W0.heap.size W0 w1 by (repeat (first|assumption|exact Below.refl _ _|refine keep_drew ?_|refine keep_alloc ?_ _|refine keep_trans ?_ (by assumption)))) (Nat.le_refl _)
  have hne:W0.heap.size≠W0.heap.size+1:=by omega
  have hl4:W0.heap.size≤W0.heap.size+1:=by omega
  generalize ((((w1.setCell ⟨W0.heap.size,0,none⟩ (.int .i64 (N:Int))).setCell ⟨W0.heap.size,1,none⟩ (.int .i64 (N:Int))).setCell ⟨W0.heap.size,2,none⟩ (.slice a2 rs.length c2)))=WF at qg qi hown hbl ⊢
  obtain ⟨v0,vf,vl⟩:=c1_of qi
  have hnb:(Value.slice a2 rs.length c2).ownBlock≠some (W0.heap.size+1):=fun e=>absurd (hown2.lt _ e).1 (by simp <;> omega)
  have qi5:=q_set (i:=0) qi (.int .i64 (N:Int))
  have qg5:=q_other (i:=0) qg hne (.int .i64 (N:Int))
  have hown5:=ownsRow_setCell_other (a:=⟨W0.heap.size+1,0,none⟩) hown hnb (.int .i64 (N:Int))
  have hbl5:=keep_set (p:=⟨W0.heap.size+1,0,none⟩) hbl hl4 (.int .i64 (N:Int))
  go_wp2_with fail
  refine NoPanic.normal ?_
  generalize (WF.setCell ⟨W0.heap.size+1,0,none⟩ (.int .i64 (N:Int)))=W5 at qi5 qg5 hown5 hbl5 ⊢
  obtain ⟨v0,vf,vl⟩:=c1_of qi5
  have HI5:=(IC.of_owns hown5 hrl).1
  have hEV:=every_c (N*N*N) (by omega) 83 #[] #[.pointer (some ⟨W0.heap.size+1,0,none⟩),.pointer (some ⟨W0.heap.size,0,none⟩)] (fun k=>symM N rs (symM N rs (k / N / N) (k / N % N)) (k % N)==symM N rs (k / N / N) (symM N rs (k / N % N) (k % N))) (fun _ W=>Below W5.heap.size W5 W) W5 enterKG1 (Below.refl _ _) (fun k hk W hb=>by
   refine (kg1_c N k (W0.heap.size) (W0.heap.size+1) a2 rs.length c2 rs W (HI5.mono hb) HLR.out hk (keepq hb qg5) (keepq hb qi5)).mono ?_
   rintro e w' ⟨rfl,hb'⟩
   exact ⟨rfl,keep_trans hb hb'⟩)
  rw[← HD.out] at hEV
  have HEV:=Lib.hid hEV
  have HB5:=Lib.hid (keep_trans fB hbl5)
  clear hEV qg qi hown hbl qi5 qg5 hown5 HI5 hbl5 hnb
  obtain ⟨e1,e2⟩:=hmu
  clear HD
  generalize N*N*N=s3 at HEV e2 hNNN
  generalize N*N=s2 at e1 e2 hNN
  go_wp2_with (first|(go_at_call 53;refine HEV.out.mono ?_;rintro _ w6 ⟨rfl,k,hb6⟩)|fail)
  refine bodyPost_ret (v := .bool (kGrp N cs)) ?_ rfl ⟨rfl,keep_trans HB5.out hb6⟩
  simp[results,Try.f68,go_sem]
 ·have qg:(w1.alloc (.cells #[.int .i64 (N:Int),.int .i64 (N:Int),.slice a2 rs.length c2] 31)).heap[w1.heap.size]?=some (.cells #[.int .i64 (N:Int),.int .i64 (N:Int),.slice a2 rs.length c2] 31 (0,0)):=World.alloc_heap_new _ _
  have qi:(w1.alloc (.cells #[.int .i64 (N:Int),.int .i64 (N:Int),.slice a2 rs.length c2] 31)).heap[W0.heap.size]?=some (.cells #[.int .i64 0] 3 (0,0)):=keepq (keep_alloc (Below.refl _ _) _) i
  have hown:(w1.alloc (.cells #[.int .i64 (N:Int),.int .i64 (N:Int),.slice a2 rs.length c2] 31)).ownsRow W0.heap.size 3 1 (.slice a2 rs.length c2) rs.length (rs.map (Value.int .i64)):=owns_base (hown2.alloc _) (by simp <;> omega)
  have hbl:Below W0.heap.size W0 (w1.alloc (.cells #[.int .i64 (N:Int),.int .i64 (N:Int),.slice a2 rs.length c2] 31)):=keep_alloc (show Below W0.heap.size W0 w1 by (repeat (first|assumption|exact Below.refl _ _|refine keep_drew ?_|refine keep_alloc ?_ _|refine keep_trans ?_ (by assumption)))) _
  have hne:w1.heap.size≠W0.heap.size:=by omega
  have hl4:W0.heap.size≤W0.heap.size:=by omega
  generalize (w1.alloc (.cells #[.int .i64 (N:Int),.int .i64 (N:Int),.slice a2 rs.length c2] 31))=WF at qg qi hown hbl ⊢
  obtain ⟨v0,vf,vl⟩:=c1_of qi
  have hnb:(Value.slice a2 rs.length c2).ownBlock≠some (W0.heap.size):=fun e=>absurd (hown2.lt _ e).1 (by simp <;> omega)
  have qi5:=q_set (i:=0) qi (.int .i64 (N:Int))
  have qg5:=q_other (i:=0) qg hne (.int .i64 (N:Int))
  have hown5:=ownsRow_setCell_other (a:=⟨W0.heap.size,0,none⟩) hown hnb (.int .i64 (N:Int))
  have hbl5:=keep_set (p:=⟨W0.heap.size,0,none⟩) hbl hl4 (.int .i64 (N:Int))
  go_wp2_with fail
  refine NoPanic.normal ?_
  generalize (WF.setCell ⟨W0.heap.size,0,none⟩ (.int .i64 (N:Int)))=W5 at qi5 qg5 hown5 hbl5 ⊢
  obtain ⟨v0,vf,vl⟩:=c1_of qi5
  have HI5:=(IC.of_owns hown5 hrl).1
  have hEV:=every_c (N*N*N) (by omega) 83 #[] #[.pointer (some ⟨W0.heap.size,0,none⟩),.pointer (some ⟨w1.heap.size,0,none⟩)] (fun k=>symM N rs (symM N rs (k / N / N) (k / N % N)) (k % N)==symM N rs (k / N / N) (symM N rs (k / N % N) (k % N))) (fun _ W=>Below W5.heap.size W5 W) W5 enterKG1 (Below.refl _ _) (fun k hk W hb=>by
   refine (kg1_c N k (w1.heap.size) (W0.heap.size) a2 rs.length c2 rs W (HI5.mono hb) HLR.out hk (keepq hb qg5) (keepq hb qi5)).mono ?_
   rintro e w' ⟨rfl,hb'⟩
   exact ⟨rfl,keep_trans hb hb'⟩)
  rw[← HD.out] at hEV
  have HEV:=Lib.hid hEV
  have HB5:=Lib.hid (keep_trans fB hbl5)
  clear hEV qg qi hown hbl qi5 qg5 hown5 HI5 hbl5 hnb
  obtain ⟨e1,e2⟩:=hmu
  clear HD
  generalize N*N*N=s3 at HEV e2 hNNN
  generalize N*N=s2 at e1 e2 hNN
  go_wp2_with (first|(go_at_call 53;refine HEV.out.mono ?_;rintro _ w6 ⟨rfl,k,hb6⟩)|fail)
  refine bodyPost_ret (v := .bool (kGrp N cs)) ?_ rfl ⟨rfl,keep_trans HB5.out hb6⟩
  simp[results,Try.f68,go_sem]
 ·have qg:((((w1.setCell ⟨W0.heap.size+1,0,none⟩ (.int .i64 (N:Int))).setCell ⟨W0.heap.size+1,1,none⟩ (.int .i64 (N:Int))).setCell ⟨W0.heap.size+1,2,none⟩ (.slice a2 rs.length c2))).heap[W0.heap.size+1]?=some (.cells #[.int .i64 (N:Int),.int .i64 (N:Int),.slice a2 rs.length c2] 31 (0,0)):=st3_q g
  have qi:((((w1.setCell ⟨W0.heap.size+1,0,none⟩ (.int .i64 (N:Int))).setCell ⟨W0.heap.size+1,1,none⟩ (.int .i64 (N:Int))).setCell ⟨W0.heap.size+1,2,none⟩ (.slice a2 rs.length c2))).heap[W0.heap.size]?=some (.cells #[.int .i64 0] 3 (0,0)):=q_other (q_other (q_other i (by omega) _) (by omega) _) (by omega) _
  have hown:((((w1.setCell ⟨W0.heap.size+1,0,none⟩ (.int .i64 (N:Int))).setCell ⟨W0.heap.size+1,1,none⟩ (.int .i64 (N:Int))).setCell ⟨W0.heap.size+1,2,none⟩ (.slice a2 rs.length c2))).ownsRow W0.heap.size 3 1 (.slice a2 rs.length c2) rs.length (rs.map (Value.int .i64)):=owns_base (st3_own hown2 (fun e=>by have:=(hown2.lt _ e).1;simp at this <;> omega)) (by simp <;> omega)
  have hbl:Below W0.heap.size W0 ((((w1.setCell ⟨W0.heap.size+1,0,none⟩ (.int .i64 (N:Int))).setCell ⟨W0.heap.size+1,1,none⟩ (.int .i64 (N:Int))).setCell ⟨W0.heap.size+1,2,none⟩ (.slice a2 rs.length c2))):=st3_below (show Below W0.heap.size W0 w1 by (repeat (first|assumption|exact Below.refl _ _|refine keep_drew ?_|refine keep_alloc ?_ _|refine keep_trans ?_ (by assumption)))) (by omega)
  have hne:W0.heap.size+1≠W0.heap.size:=by omega
  have hl4:W0.heap.size≤W0.heap.size:=by omega
  generalize ((((w1.setCell ⟨W0.heap.size+1,0,none⟩ (.int .i64 (N:Int))).setCell ⟨W0.heap.size+1,1,none⟩ (.int .i64 (N:Int))).setCell ⟨W0.heap.size+1,2,none⟩ (.slice a2 rs.length c2)))=WF at qg qi hown hbl ⊢
  obtain ⟨v0,vf,vl⟩:=c1_of qi
  have hnb:(Value.slice a2 rs.length c2).ownBlock≠some (W0.heap.size):=fun e=>absurd (hown2.lt _ e).1 (by simp <;> omega)
  have qi5:=q_set (i:=0) qi (.int .i64 (N:Int))
  have qg5:=q_other (i:=0) qg hne (.int .i64 (N:Int))
  have hown5:=ownsRow_setCell_other (a:=⟨W0.heap.size,0,none⟩) hown hnb (.int .i64 (N:Int))
  have hbl5:=keep_set (p:=⟨W0.heap.size,0,none⟩) hbl hl4 (.int .i64 (N:Int))
  go_wp2_with fail
  refine NoPanic.normal ?_
  generalize (WF.setCell ⟨W0.heap.size,0,none⟩ (.int .i64 (N:Int)))=W5 at qi5 qg5 hown5 hbl5 ⊢
  obtain ⟨v0,vf,vl⟩:=c1_of qi5
  have HI5:=(IC.of_owns hown5 hrl).1
  have hEV:=every_c (N*N*N) (by omega) 83 #[] #[.pointer (some ⟨W0.heap.size,0,none⟩),.pointer (some ⟨W0.heap.size+1,0,none⟩)] (fun k=>symM N rs (symM N rs (k / N / N) (k / N % N)) (k % N)==symM N rs (k / N / N) (symM N rs (k / N % N) (k % N))) (fun _ W=>Below W5.heap.size W5 W) W5 enterKG1 (Below.refl _ _) (fun k hk W hb=>by
   refine (kg1_c N k (W0.heap.size+1) (W0.heap.size) a2 rs.length c2 rs W (HI5.mono hb) HLR.out hk (keepq hb qg5) (keepq hb qi5)).mono ?_
   rintro e w' ⟨rfl,hb'⟩
   exact ⟨rfl,keep_trans hb hb'⟩)
  rw[← HD.out] at hEV
  have HEV:=Lib.hid hEV
  have HB5:=Lib.hid (keep_trans fB hbl5)
  clear hEV qg qi hown hbl qi5 qg5 hown5 HI5 hbl5 hnb
  obtain ⟨e1,e2⟩:=hmu
  clear HD
  generalize N*N*N=s3 at HEV e2 hNNN
  generalize N*N=s2 at e1 e2 hNN
  go_wp2_with (first|(go_at_call 53;refine HEV.out.mono ?_;rintro _ w6 ⟨rfl,k,hb6⟩)|fail)
  refine bodyPost_ret (v := .bool (kGrp N cs)) ?_ rfl ⟨rfl,keep_trans HB5.out hb6⟩
  simp[results,Try.f68,go_sem]
end
section
open Go Go.RowKit
attribute [local go_sem] over_cell
attribute [local go_sem] Oper.semAt_some
end
section
open Go Go.RowKit
attribute [local go_sem] over_cell
attribute [local go_sem] Oper.semAt_some
end
section
open Go Go.RowKit
attribute [local go_sem] over_cell
attribute [local go_sem] Oper.semAt_some
end
section
open Go Go.RowKit
attribute [local go_sem] over_cell
attribute [local go_sem] Oper.semAt_some
end
section
open Go Go.RowKit
attribute [local go_sem] over_cell
attribute [local go_sem] Oper.semAt_some
end
section
open Go Go.RowKit
attribute [local go_sem] over_cell
attribute [local go_sem] Oper.semAt_some
end
section
open Go Go.RowKit
attribute [local go_sem] over_cell
attribute [local go_sem] Oper.semAt_some
end
section
open Go Go.RowKit
attribute [local go_sem] over_cell
attribute [local go_sem] Oper.semAt_some
end
section
open Go Go.RowKit
attribute [local go_sem] over_cell
attribute [local go_sem] Oper.semAt_some
end
section
open Go Go.RowKit Go.Shelf
attribute [local go_sem] Oper.semAt_some
attribute [local go_sem] over_cell
end
section
open Go Go.RowKit
attribute [local go_sem] over_cell
attribute [local go_sem] Oper.semAt_some
theorem infoStr:(Try.prog.info? 9).map (fun i=>(i.zero,i.size,i.bytes))=some (some (.string ⟨#[]⟩),1,16):=by kernel_rfl
def kS0:ByteArray:=⟨#[114,101,100,117,99,101,100]⟩
def kS1:ByteArray:=⟨#[115,121,109,109,101,116,114,105,99]⟩
def kS2:ByteArray:=⟨#[105,100,101,109,112,111,116,101,110,116]⟩
def kS3:ByteArray:=⟨#[117,110,105,112,111,116,101,110,116]⟩
def kS4:ByteArray:=⟨#[100,105,97,103,111,110,97,108]⟩
def kS5:ByteArray:=⟨#[112,97,110,100,105,97,103,111,110,97,108]⟩
def kS6:ByteArray:=⟨#[103,114,111,117,112]⟩
def kStr (i:Nat):ByteArray:=[kS0,kS1,kS2,kS3,kS4,kS5,kS6][i]?.getD ⟨#[]⟩
def kFn (i:Nat):Nat:=[49,52,56,58,60,64,68][i]?.getD 0
def kCells:Array Value:=#[.string kS0,.func (.func 49) #[] #[],.string kS1,.func (.func 52) #[] #[],.string kS2,.func (.func 56) #[] #[],.string kS3,.func (.func 58) #[] #[],.string kS4,.func (.func 60) #[] #[],.string kS5,.func (.func 64) #[] #[],.string kS6,.func (.func 68) #[] #[]]
def kNames (n:Nat) (cs:List Int) (m:Nat):List ByteArray:=(kindTo n cs m).map kStr
theorem enterK (i:Nat) (hi:i<7):∀args w,Sem.run Try.prog (callFunc (kFn i) args) w = .ok (.enter (kFn i) args) w:=by
 match i,hi with
 | 0,_=>intro args w;kernel_rfl
 | 1,_=>intro args w;kernel_rfl
 | 2,_=>intro args w;kernel_rfl
 | 3,_=>intro args w;kernel_rfl
 | 4,_=>intro args w;kernel_rfl
 | 5,_=>intro args w;kernel_rfl
 | 6,_=>intro args w;kernel_rfl
theorem k_cells {W:World} {b:Nat} {T:TypeId} (h:W.heap[b]?=some (.cells kCells T (0,0))) {i:Nat} (hi:i<7):W.cell? ⟨b,i*2,none⟩=some (.string (kStr i))∧W.cell? ⟨b,i*2+1,none⟩=some (.func (.func (kFn i)) #[] #[]):=by
 match i,hi with
 | 0,_=>exact ⟨q_cell h 0,q_cell h 1⟩
 | 1,_=>exact ⟨q_cell h 2,q_cell h 3⟩
 | 2,_=>exact ⟨q_cell h 4,q_cell h 5⟩
 | 3,_=>exact ⟨q_cell h 6,q_cell h 7⟩
 | 4,_=>exact ⟨q_cell h 8,q_cell h 9⟩
 | 5,_=>exact ⟨q_cell h 10,q_cell h 11⟩
 | 6,_=>exact ⟨q_cell h 12,q_cell h 13⟩
theorem kinds_c (w:World):Calls Try.prog 30 #[] w fun e w'=>e = .returned (.slice (some ⟨w.heap.size,0,none⟩) 7 7)∧w'=w.alloc (.cells kCells 72):=by
 go_enter Try.func30,Try.ntmps30
 go_wp2_with fail
 refine bodyPost_ret (v := .slice (some ⟨w.heap.size,0,none⟩) 7 7) ?_ rfl ⟨rfl,rfl⟩
 simp[results,Try.f30,go_sem]
theorem kall_c (N:Nat) (a:Option Addr) (m c:Nat) (cs:List Int) (i:Nat) (hi:i<7) (w:World) (h:IC w a m cs) (hcap:m≤c) (L:Latin N cs) :
  Calls Try.prog (kFn i) #[.agg #[.int .i64 (N:Int),.int .i64 (N:Int),.slice a m c]] w fun e w'=>e = .returned (.bool ((kindsB N cs)[i]?.getD false))∧Below w.heap.size w w':=by
 match i,hi with
 | 0,_=>exact k1_c N a m c cs w h hcap L
 | 1,_=>exact k2_c N a m c cs w h L
 | 2,_=>exact k3_c N a m c cs w h L
 | 3,_=>exact k4_c N a m c cs w h L
 | 4,_=>exact k5_c N a m c cs w h L
 | 5,_=>exact k6_c N a m c cs w h L
 | 6,_=>exact kg_c N a m c cs w h hcap L
def KindsE (w:World) (l:List ByteArray) (er:Int) (e:Ending) (w':World):Prop :=
 ∃a c,e = .returned (.tuple #[.slice a l.length c,.int .i64 er])∧w'.ownsRow w.heap.size 9 1 (.slice a l.length c) l.length (l.map Value.string)∧Below w.heap.size w w'
def kiL (r C:Int) (cs:List Int):List ByteArray:=if sqE 0 r C cs=0 then kNames r.toNat cs 7 else []
end
section
open Go Go.RowKit
end
section
open Go Go.RowKit
attribute [local go_sem] over_cell
attribute [local go_sem] Oper.semAt_some
end
section
open Go Go.RowKit
attribute [local go_sem] over_cell
attribute [local go_sem] Oper.semAt_some
end
section
open Go Go.RowKit
attribute [local go_sem] over_cell
attribute [local go_sem] Oper.semAt_some
end
section
open Go Go.RowKit
attribute [local go_sem] over_cell
attribute [local go_sem] Oper.semAt_some
end
end Go.Proofs.Ytpkghjoippcjeaa
