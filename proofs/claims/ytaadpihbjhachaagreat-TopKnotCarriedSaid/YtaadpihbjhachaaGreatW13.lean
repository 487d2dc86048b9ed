/- Texts H14 to H15 of this proof, in one file. -/
import Derived.Test.YtaadpihbjhachaaGreatW09
import Derived.Test.YtaadpihbjhachaaGreatW11
import Derived.Test.YtaadpihbjhachaaGreatW12
import Derived.Deep.CutBlock
import Derived.Deep.CutRange
namespace Go.Proofs.YtaadpihbjhachaaGreat
set_option maxRecDepth 100000
set_option maxHeartbeats 16000000
section
open Go Go.RowKit
attribute [local go_sem] over_cell
attribute [local go_sem] Oper.semAt_some
theorem ndsL_some {T:List Nd} {k:Nat} {d:Nd} (h:T[k]?=some d):k<T.length:=by
 rcases Nat.lt_or_ge k T.length with h1|h1
 ·exact h1
 ·rw[List.getElem?_eq_none h1] at h;cases h
theorem TC.of_owns {w:World} {base n c m:Nat} {a:Option Addr} {T:List Nd} (h:w.ownsRow base 104 5 (.slice a n c) m (ndsL T)) (hn:T.length≤4398046511104):TC w a n T∧n≤c∧n=m∧T.length=n:=by
 have hl:=h.1
 rw[ndsL_len] at hl
 rcases h.2 with ⟨h2,h3⟩|⟨g,cap,cur,hv,hb,hh,hnc,hm,hs,ht⟩
 ·simp only[Value.slice.injEq] at h2
  obtain ⟨rfl,rfl,rfl⟩:=h2
  exact ⟨⟨⟨by omega,by omega⟩,fun k d hk=>by have:=ndsL_some hk;omega⟩,by omega,by omega,by omega⟩
 ·simp only[Value.slice.injEq] at hv
  obtain ⟨rfl,rfl,rfl⟩:=hv
  refine ⟨⟨⟨by omega,by omega⟩,fun k d hk=>?_⟩,hnc,rfl,by omega⟩
  have hk2:=ndsL_some hk
  have key:∀q,q<5→w.cell? ⟨g,0+k*5+q,none⟩=(ndA d)[q]?:=fun q hq=>by
   have h4:=ndsL_get T k q d hk hq
   rw[← ht,List.getElem?_take,if_pos (by omega)] at h4
   rw[show 0+k*5+q=k*5+q from by omega,cell_of_row w g _ cur _ (0,0) hh,← h4]
   simp
  exact ⟨g,0,rfl,lt_of_block hh,key 0 (by decide),key 1 (by decide),key 2 (by decide),key 3 (by decide),key 4 (by decide)⟩
def refuteE (cells:Int) (ls:List (List Int)) (sum:Int) (g:List Int):Int :=
 if (smallErr cells ls sum g != 0)=true then smallErr cells ls sum g else if (solsL ls sum g []).length=0 then 0 else 22
def refuteT (cells:Int) (ls:List (List Int)) (sum:Int) (f:Nat) (g:List Int):List Nd:=if refuteE cells ls sum g=0 then madeT ls sum f g else []
def RefI (w:World) (b0 b1 b2:Nat) (A0:Array Value) (pre:List (Value × List Int)) (M:Nat→Prop) (W:World):Prop :=
 OldI w.heap.size w W M∧BoxI W M b0 A0 27∧BoxI W M b1 #[.slice none 0 0] 44∧BoxI W M b2 #[.int .i64 0] 34∧pre.length=0
theorem refI_stable {w:World} {L b0 b1 b2:Nat} {A0:Array Value} (hL:w.heap.size≤L):StableL L (RefI w b0 b1 b2 A0) :=
 stable_and (stable_old hL (Nat.le_refl _)) (stable_and (stable_box _ _ _) (stable_and (stable_box _ _ _) (stable_and (stable_box _ _ _) (stable_pure _))))
def RefX (w:World) (b1 b2:Nat) (c:Code) (pre:List (Value × List Int)) (M:Nat→Prop) (W:World):Prop :=
 c = .ret∧OldI w.heap.size w W M∧BoxI W M b1 #[.slice none 0 0] 44∧BoxI W M b2 #[.int .i64 22] 34∧0<pre.length
theorem refX_stable {w:World} {L b1 b2:Nat} (hL:w.heap.size≤L) (c:Code):StableL L (RefX w b1 b2 c) :=
 stable_and (stable_pure _) (stable_and (stable_old hL (Nat.le_refl _)) (stable_and (stable_box _ _ _) (stable_and (stable_box _ _ _) (stable_pure _))))
theorem refute_c (a:Option Addr) (n c:Nat) (ls:List (List Int)) (cells sum:Int) (a':Option Addr) (n' c':Nat) (g:List Int) (f:Nat) (w:World) (h:RC w a n ls) (hcap:n≤c) (h':IC w a' n' g) (hcap':n'≤c')
  (hok:refuteE cells ls sum g=0→okTB ls sum f g=true∧(madeT ls sum f g).length≤1000000000000) :
  Calls Tryz.prog 17 #[.agg #[.int .i64 cells,.slice a n c,.int .i64 sum,.slice a' n' c']] w fun e w'=>∃ar nr cr,e = .returned (.tuple #[.slice ar nr cr,.int .i64 (refuteE cells ls sum g)])∧TC w' ar nr (refuteT cells ls sum f g)∧nr≤cr∧Below w.heap.size w w':=by
 have hE:Hid (refuteE cells ls sum g=if (smallErr cells ls sum g != 0)=true then smallErr cells ls sum g else if (solsL ls sum g []).length=0 then 0 else 22):=rfl
 have hnil:∀w',TC w' none 0 []:=fun w'=>⟨⟨rfl,by omega⟩,fun k d hk=>(by cases hk)⟩
 have HNIL:=Lib.hid hnil
 have HOK:=Lib.hid hok
 clear hnil hok
 refine calls_of_marks Tryz.func17 rfl ?_
 simp only[Tryz.ntmps17,List.size_toArray,List.length_cons,List.length_nil,Nat.reduceAdd,Nat.reduceSub,Array.replicate_succ,Array.replicate_zero,List.push_toArray,List.append_toArray,List.nil_append,List.cons_append]
 go_wp2_with fail
 have fsz:(((w.alloc (.cells #[.int .i64 cells,.slice a n c,.int .i64 sum,.slice a' n' c'] 27)).alloc (.cells #[.slice none 0 0] 44)).alloc (.cells #[.int .i64 0] 34)).heap.size=w.heap.size+3:=by simp only[World.size_alloc] <;> omega
 have fB:Below w.heap.size w (((w.alloc (.cells #[.int .i64 cells,.slice a n c,.int .i64 sum,.slice a' n' c'] 27)).alloc (.cells #[.slice none 0 0] 44)).alloc (.cells #[.int .i64 0] 34)):=(((Below.refl _ _).alloc (Nat.le_refl _) _).alloc (by simp only[World.size_alloc];omega) _).alloc (by simp only[World.size_alloc];omega) _
 have fq0:(((w.alloc (.cells #[.int .i64 cells,.slice a n c,.int .i64 sum,.slice a' n' c'] 27)).alloc (.cells #[.slice none 0 0] 44)).alloc (.cells #[.int .i64 0] 34)).heap[w.heap.size]?=some (.cells #[.int .i64 cells,.slice a n c,.int .i64 sum,.slice a' n' c'] 27 (0,0)):=by have h:=World.alloc_heap_new w (.cells #[.int .i64 cells,.slice a n c,.int .i64 sum,.slice a' n' c'] 27);exact (Below.heap_alloc _ _ _ (by simp only[World.size_alloc];omega)).trans ((Below.heap_alloc _ _ _ (by simp only[World.size_alloc];omega)).trans (h))
 have fq1:(((w.alloc (.cells #[.int .i64 cells,.slice a n c,.int .i64 sum,.slice a' n' c'] 27)).alloc (.cells #[.slice none 0 0] 44)).alloc (.cells #[.int .i64 0] 34)).heap[w.heap.size+1]?=some (.cells #[.slice none 0 0] 44 (0,0)):=by have h:=World.alloc_heap_new (w.alloc (.cells #[.int .i64 cells,.slice a n c,.int .i64 sum,.slice a' n' c'] 27)) (.cells #[.slice none 0 0] 44);simp only[World.size_alloc] at h;exact (Below.heap_alloc _ _ _ (by simp only[World.size_alloc];omega)).trans (h)
 have fq2:(((w.alloc (.cells #[.int .i64 cells,.slice a n c,.int .i64 sum,.slice a' n' c'] 27)).alloc (.cells #[.slice none 0 0] 44)).alloc (.cells #[.int .i64 0] 34)).heap[w.heap.size+1+1]?=some (.cells #[.int .i64 0] 34 (0,0)):=by have h:=World.alloc_heap_new ((w.alloc (.cells #[.int .i64 cells,.slice a n c,.int .i64 sum,.slice a' n' c'] 27)).alloc (.cells #[.slice none 0 0] 44)) (.cells #[.int .i64 0] 34);simp only[World.size_alloc] at h;exact h
 generalize (((w.alloc (.cells #[.int .i64 cells,.slice a n c,.int .i64 sum,.slice a' n' c'] 27)).alloc (.cells #[.slice none 0 0] 44)).alloc (.cells #[.int .i64 0] 34))=W0 at fsz fB fq0 fq1 fq2 ⊢
 have H:=Lib.hid h
 have H':=Lib.hid h'
 have HS:=Lib.hid (small_c a n c ls cells sum a' n' c' g W0 (h.mono fB) hcap (h'.mono fB) hcap')
 clear h h'
 have fsz':w.heap.size+2<W0.heap.size:=by omega
 clear fsz
 by_cases he:(smallErr cells ls sum g != 0)=true
 ·rw[if_pos he] at hE
  have hne:¬smallErr cells ls sum g=0:=by simpa using he
  have HNE:=Lib.hid hne
  go_wp2_with (go_at_call 63;refine HS.out.mono ?_;rintro _ w1 ⟨rfl,hb1⟩;have c1:=q_cell (keepq hb1 fq1) 0;have c2:=q_cell (keepq hb1 fq2) 0;have f1:=q_free (keepq hb1 fq1) 0;have f2:=q_free (keepq hb1 fq2) 0)
  have g1:=q_other (q_set (i:=0) (keepq hb1 fq1) (.slice none 0 0)) (b':=w.heap.size+1+1) (i:=0) (by omega) (.int .i64 (smallErr cells ls sum g))
  have g2:=q_set (i:=0) (q_other (keepq hb1 fq2) (b':=w.heap.size+1) (i:=0) (by omega) (.slice none 0 0)) (.int .i64 (smallErr cells ls sum g))
  have d1:=q_cell g1 0
  have d2:=q_cell g2 0
  refine marks_none (v := .tuple #[.slice none 0 0,.int .i64 (smallErr cells ls sum g)]) ?_ rfl ⟨none,0,0,?_,?_,Nat.le_refl _,?_⟩
  ·simp[results,Tryz.f17,go_sem,d1,d2]
  ·rw[hE.out]
  ·unfold refuteT;rw[hE.out,if_neg HNE.out];exact HNIL.out _
  ·exact (((fB.trans (hb1.mono (by omega))).setCell (p:=⟨w.heap.size+1,0,none⟩) (by simp) _).setCell (p:=⟨w.heap.size+1+1,0,none⟩) (by show w.heap.size≤w.heap.size+1+1;omega) _)
 ·have he0:smallErr cells ls sum g=0:=by simpa using he
  rw[if_neg he] at hE
  have hte:taskErr cells ls sum g=0:=by
   unfold smallErr at he0
   by_cases h1:(taskErr cells ls sum g != 0)=true
   ·rw[if_pos h1] at he0;exact he0
   ·simpa using h1
  have G:=Lib.hid (goodTask hte)
  rw[he0] at HS
  clear he he0 hte
  have hl':=H'.out.len
  have hl:=H.out.len
  have hm':n'≤256:=by have:=G.out.len;have:=G.out.cells2;omega
  have hn1:n≤1000000:=by have:=G.out.lines;omega
  go_wp2_with (go_at_call 63;refine HS.out.mono ?_;rintro _ w1 ⟨rfl,hb1⟩;have x0:=q_cell (keepq hb1 fq0) 0;have x1:=q_cell (keepq hb1 fq0) 1;have x2:=q_cell (keepq hb1 fq0) 2;have x3:=q_cell (keepq hb1 fq0) 3)
  have hz1:=hb1.size
  have g0:=keepq hb1 fq0
  have g1:=keepq hb1 fq1
  have g2:=keepq hb1 fq2
  have hBW:Below w.heap.size w w1:=fB.trans (hb1.mono (by omega))
  clear x0 x1 x2 x3
  have hOlt:∀k,k<w.heap.size→k<w1.heap.size:=fun k hk=>by have:=hBW.size;omega
  refine (all_c a n c ls cells sum a' n' c' g w1 (H.out.mono hBW) hcap hn1 (H'.out.mono hBW) hm' (fun k hk=>by have:=G.out.num k (by omega);have:=G.out.cells2;omega) (fun l hl=>by have h1:=G.out.lineLen hl;have h2:=G.out.len;exact ⟨h1.1,fun x hx=>by have:=h1.2 x hx;omega⟩) (fun k=>k<w.heap.size) hOlt (old_lines H.out hBW)).mono ?_
  rintro _ w3 ⟨bx,b,Im,ao,co,al,cl,vf,rfl,hbx1,hbx2,hbx3,hbx4,hbx5,hbx6,hsr,hb3,hb4,hb5,hb6⟩
  have p0:=keepq hb3 g0
  have p1:=keepq hb3 g1
  have p2:=keepq hb3 g2
  go_wp2_with fail
  have hnb:¬Mut b vf (.slice none 0 0) bx:=by
   rintro (e|e|e)
   ·exact hbx3 e
   ·exact hbx4 e
   ·cases e
  have hge:∀k,Mut b vf (.slice none 0 0) k→w1.heap.size≤k:=by
   rintro k (e|e|e)
   ·omega
   ·exact hb5 k e
   ·cases e
  have hev:Even ⟨cells,a,n,c,ls,sum,a',n',c',g,ao,co,al,cl⟩:=G.out.even
  have h3:w1.heap.size≤w3.heap.size:=hb3.size
  refine wp_range_sol hsr hev hbx6 hbx2 hnb rfl
   (RefI w w.heap.size (w.heap.size+1) (w.heap.size+1+1) #[.int .i64 cells,.slice a n c,.int .i64 sum,.slice a' n' c']) (RefX w (w.heap.size+1) (w.heap.size+1+1)) ?hI ?hIx ?h0 ?act ?assign ?body ?done ?stop
  case hI=>exact refI_stable (by omega)
  case hIx=>exact refX_stable (by omega)
  case h0 =>
   have hBW3:=hBW.trans (hb3.mono hBW.size)
   exact ⟨⟨hBW3,fun k hk=>by have:=hge k hk;have:=hBW.size;omega⟩,⟨p0,fun e=>by have:=hge _ e;omega⟩,⟨p1,fun e=>by have:=hge _ e;omega⟩,⟨p2,fun e=>by have:=hge _ e;omega⟩,by simp⟩
  case assign =>
   intro l x W K hK
   gi_wp2
   exact hK
  case body =>
   rintro l pre x M W4 W hI0 hst _ _
   obtain ⟨⟨hB,hM⟩,⟨q0,m0⟩,⟨q1,m1⟩,⟨q2,m2⟩,hle⟩:=(refI_stable (L:=w3.heap.size) (by omega)).round hI0 hst
   have c1:=q_cell q1 0
   have c2:=q_cell q2 0
   have f1:=q_free q1 0
   have f2:=q_free q2 0
   gi_wp2
   refine ⟨(KeepsOthers.setCell _ _ _).trans (KeepsOthers.setCell _ _ _),(KpS.setCell _ ?_).trans (KpS.setCell _ ?_),rfl,⟨(hB.setCell (p:=⟨w.heap.size+1,0,none⟩) (by simp) _).setCell (p:=⟨w.heap.size+1+1,0,none⟩) (by show w.heap.size≤w.heap.size+1+1;omega) _,hM⟩,⟨?_,m1⟩,⟨?_,m2⟩,by simp⟩
   ·rintro (e|e|e)
    ·rcases hb6 _ e with e2|e2 <;> omega
    ·exact m1 e
    ·omega
   ·rintro (e|e|e)
    ·rcases hb6 _ e with e2|e2 <;> omega
    ·exact m2 e
    ·omega
   ·exact q_other (q_set q1 _) (by omega) _
   ·exact q_set (q_other q2 (by omega) _) _
  case done =>
   rintro D xs M W hD hS ⟨⟨hB,hM⟩,⟨q0,m0⟩,⟨q1,m1⟩,⟨q2,m2⟩,hle⟩ hK
   have HL:Hid ((solsL ls sum g []).length=0):=by unfold Hid;rw[← hS,List.length_map];exact hle
   have hE2:Hid (refuteE cells ls sum g=0):=by unfold Hid;rw[hE.out,if_pos HL.out]
   have HOK2:=Lib.hid (HOK.out hE2.out)
   have HQ1:=Lib.hid q1
   have HQ2:=Lib.hid q2
   have HQ0:=Lib.hid q0
   have hDl:=q_lt hK
   have x3:W.cell? ⟨w.heap.size,3,none⟩=some (.slice a' n' c'):=q_cell q0 3
   have xl:=q_lt q0
   have HK:=Lib.hid hK
   have HCL:=Lib.hid (clone_c a' n' c' g W (H'.out.mono hB))
   clear hS q0 q1 q2 m0 m1 m2 hK
   go_wp2_with fail
   refine HCL.out.mono ?_
   rintro _ w5 ⟨v5,rfl,hown5,hb5'⟩
   rw[hl'] at hown5
   obtain ⟨a5,c5,rfl⟩:=owns_shape hown5
   have hgl1:0<n':=by have:=G.out.len;have:=hl';have:=G.out.cells1;omega
   obtain ⟨gb,cur,rfl,hgb,hgq⟩:=owns_blk hown5 hgl1
   have hBz:=hB.size
   have hz5:=hb5'.size
   have qT:=keepq hb5' HQ0.out
   have z3:w5.cell? ⟨w.heap.size,3,none⟩=some (.slice a' n' c'):=q_cell qT 3
   have zf3:=q_free qT 3
   have zl:=q_lt qT
   go_upto_region 7 with fail
   have q6:=q_set (i:=3) qT (.slice (some ⟨gb,0,none⟩) n' c5)
   have o6:(w5.setCell ⟨w.heap.size,3,none⟩ (.slice (some ⟨gb,0,none⟩) n' c5)).ownsRow 0 3 1 (.slice (some ⟨gb,0,none⟩) n' c5) n' (g.map (Value.int .i64)):=owns_keep (owns_base hown5 (Nat.zero_le _)) (fun i e _=>Below.heap_setCell _ _ _ _ (fun e2=>by simp only[Value.ownBlock,Option.some.injEq] at e;simp at e2;omega))
   have K6:=q_other (keepq hb5' HK.out) (b':=w.heap.size) (i:=3) (by omega) (.slice (some ⟨gb,0,none⟩) n' c5)
   have A6:=q_other (keepq hb5' HQ1.out) (b':=w.heap.size) (i:=3) (by omega) (.slice (some ⟨gb,0,none⟩) n' c5)
   have B6:=q_other (keepq hb5' HQ2.out) (b':=w.heap.size) (i:=3) (by omega) (.slice (some ⟨gb,0,none⟩) n' c5)
   have hB6:Below w.heap.size w (w5.setCell ⟨w.heap.size,3,none⟩ (.slice (some ⟨gb,0,none⟩) n' c5)):=(hB.trans (hb5'.mono hBz)).setCell (p:=⟨w.heap.size,3,none⟩) (Nat.le_refl _) _
   have hg6:gb<(w5.setCell ⟨w.heap.size,3,none⟩ (.slice (some ⟨gb,0,none⟩) n' c5)).heap.size:=(o6.lt gb rfl).2
   clear hown5 qT z3 zf3 zl hgq x3 xl HCL
   generalize (w5.setCell ⟨w.heap.size,3,none⟩ (.slice (some ⟨gb,0,none⟩) n' c5))=w6 at q6 o6 K6 A6 B6 hB6 hg6 ⊢
   replace q6:w6.heap[w.heap.size]?=some (.cells #[.int .i64 cells,.slice a n c,.int .i64 sum,.slice (some ⟨gb,0,none⟩) n' c5] 27 (0,0)):=q6
   go_wp2_with fail
   have ksz:((w6.alloc (.cells #[.slice none 0 0] 44)).alloc (.cells #[.func (Fn.func 72) #[] #[.pointer (some ⟨w.heap.size,0,none⟩),.pointer (some ⟨w6.heap.size,0,none⟩),.pointer (some ⟨w6.heap.size+1,0,none⟩)]] 1)).heap.size=w6.heap.size+2:=by simp only[World.size_alloc] <;> omega
   have kB:Below w6.heap.size w6 ((w6.alloc (.cells #[.slice none 0 0] 44)).alloc (.cells #[.func (Fn.func 72) #[] #[.pointer (some ⟨w.heap.size,0,none⟩),.pointer (some ⟨w6.heap.size,0,none⟩),.pointer (some ⟨w6.heap.size+1,0,none⟩)]] 1)):=((Below.refl _ _).alloc (Nat.le_refl _) _).alloc (by simp only[World.size_alloc];omega) _
   have kq0:((w6.alloc (.cells #[.slice none 0 0] 44)).alloc (.cells #[.func (Fn.func 72) #[] #[.pointer (some ⟨w.heap.size,0,none⟩),.pointer (some ⟨w6.heap.size,0,none⟩),.pointer (some ⟨w6.heap.size+1,0,none⟩)]] 1)).heap[w6.heap.size]?=some (.cells #[.slice none 0 0] 44 (0,0)):=by have h:=World.alloc_heap_new w6 (.cells #[.slice none 0 0] 44);exact (Below.heap_alloc _ _ _ (by simp only[World.size_alloc];omega)).trans (h)
   have kq1:((w6.alloc (.cells #[.slice none 0 0] 44)).alloc (.cells #[.func (Fn.func 72) #[] #[.pointer (some ⟨w.heap.size,0,none⟩),.pointer (some ⟨w6.heap.size,0,none⟩),.pointer (some ⟨w6.heap.size+1,0,none⟩)]] 1)).heap[w6.heap.size+1]?=some (.cells #[.func (Fn.func 72) #[] #[.pointer (some ⟨w.heap.size,0,none⟩),.pointer (some ⟨w6.heap.size,0,none⟩),.pointer (some ⟨w6.heap.size+1,0,none⟩)]] 1 (0,0)):=by have h:=World.alloc_heap_new (w6.alloc (.cells #[.slice none 0 0] 44)) (.cells #[.func (Fn.func 72) #[] #[.pointer (some ⟨w.heap.size,0,none⟩),.pointer (some ⟨w6.heap.size,0,none⟩),.pointer (some ⟨w6.heap.size+1,0,none⟩)]] 1);simp only[World.size_alloc] at h;exact h
   generalize ((w6.alloc (.cells #[.slice none 0 0] 44)).alloc (.cells #[.func (Fn.func 72) #[] #[.pointer (some ⟨w.heap.size,0,none⟩),.pointer (some ⟨w6.heap.size,0,none⟩),.pointer (some ⟨w6.heap.size+1,0,none⟩)]] 1))=W7 at ksz kB kq0 kq1 ⊢
   have hz6:=hB6.size
   have hl6:=q_lt q6
   have hlA:=q_lt A6
   have hlB:=q_lt B6
   have hlK:=q_lt K6
   have ksz':w6.heap.size+1<W7.heap.size:=by omega
   have HRF:Hid (RF W7 W7.heap.size w.heap.size w6.heap.size (w6.heap.size+1) gb c5 cells a n c sum n' g (.slice none 0 0) []) :=
    ⟨keepq kB q6,kq0,kq1,owns_keep o6 (fun i _ hl=>kB.block i hl),World.ownsRow_nil _ _ _ _,⟨by omega,by omega,by omega⟩,⟨by omega,by omega⟩,(fun e=>by cases e),⟨by omega,by omega,by omega⟩⟩
   have hB7:=hB6.trans (kB.mono hB6.size)
   have K7:=Lib.hid (keepq kB K6)
   have A7:=Lib.hid (keepq kB A6)
   have B7:=Lib.hid (keepq kB B6)
   clear q6 o6 K6 A6 B6 kq0 kq1 ksz
   have hbig:([]:List Nd).length+(madeT ls sum f g).length≤1000000000000:=by rw[List.length_nil,Nat.zero_add];exact HOK2.out.2
   have HR1:=Lib.hid (ref1_c (cells:=cells) w W7.heap.size w.heap.size w6.heap.size (w6.heap.size+1) gb c5 a n c n' H.out ⟨Nat.le_refl _,by omega,by omega⟩ f g (.slice none 0 0) [] W7 HRF.out G.out hB7 (Nat.le_refl _) HOK2.out.1 hbig)
   clear hbig
   refine HR1.out.mono ?_
   rintro _ w8 ⟨rfl,v8,hrf8,hst8,hv8⟩
   rw[List.nil_append] at hrf8
   obtain ⟨a8,c8,rfl⟩:=owns_slice4 hrf8.ov
   have c0:w8.cell? ⟨w6.heap.size,0,none⟩=some (.slice a8 (madeT ls sum f g).length c8):=q_cell hrf8.qo 0
   have cl0:=q_lt hrf8.qo
   have A8:=stays_q hst8 A7.out (by rintro (e|e|e) <;> first|omega|cases e)
   have B8:=stays_q hst8 B7.out (by rintro (e|e|e) <;> first|omega|cases e)
   have K8:=stays_q hst8 K7.out (by rintro (e|e|e) <;> first|omega|cases e)
   have hB8:Below w.heap.size w w8:=hB7.trans (hst8.below (B:=w.heap.size) (by omega) (by rintro q (e|e|e) <;> first|omega|cases e))
   have HRF8:=Lib.hid hrf8
   have y1:=q_cell A8 0
   have yf1:=q_free A8 0
   have y2:=q_cell B8 0
   have yf2:=q_free B8 0
   have HA8:=Lib.hid A8
   have HB8:=Lib.hid B8
   have HK8:=Lib.hid K8
   clear hrf8 hst8 hv8 A8 B8 K8
   go_wp2_with fail
   have r1:=q_other (b':=w.heap.size+1+1) (i:=0) (q_set (i:=0) HA8.out (.slice a8 (madeT ls sum f g).length c8)) (by omega) (.int .i64 0)
   have r2:=q_set (i:=0) (q_other (b':=w.heap.size+1) (i:=0) HB8.out (by omega) (.slice a8 (madeT ls sum f g).length c8)) (.int .i64 0)
   have hK2:=((KeepsOthers.setCell w8 ⟨w.heap.size+1,0,none⟩ (.slice a8 (madeT ls sum f g).length c8)).trans (KeepsOthers.setCell _ ⟨w.heap.size+1+1,0,none⟩ (.int .i64 0))).same D _ HK8.out rfl
   have d1:=(putD_cell hK2 ⟨w.heap.size+1,0,none⟩).trans (q_cell r1 0)
   have d2:=(putD_cell hK2 ⟨w.heap.size+1+1,0,none⟩).trans (q_cell r2 0)
   have hown9:(((w8.setCell ⟨w.heap.size+1,0,none⟩ (.slice a8 (madeT ls sum f g).length c8)).setCell ⟨w.heap.size+1+1,0,none⟩ (.int .i64 0)).putObj D (.deferred none)).ownsRow W7.heap.size 104 5 (.slice a8 (madeT ls sum f g).length c8) (madeT ls sum f g).length (ndsL (madeT ls sum f g)) :=
    owns_keep HRF8.out.ov (fun i e hl=>by
     have h1:=owns_ge HRF8.out.ov e
     exact (World.putObj_heap_other (by omega)).trans ((Below.heap_setCell _ _ _ _ (by show i≠w.heap.size+1+1;omega)).trans (Below.heap_setCell _ _ _ _ (by show i≠w.heap.size+1;omega))))
   have htc:=TC.of_owns hown9 (by have:=HOK2.out.2;omega)
   refine marks_one (v := .tuple #[.slice a8 (madeT ls sum f g).length c8,.int .i64 0]) hK2 rfl ?_ ⟨a8,_,c8,by rw[hE2.out],by unfold refuteT;rw[hE2.out,if_pos rfl];exact htc.1,htc.2.1,?_⟩
   ·simp[results,Tryz.f17,go_sem,d1,d2]
   ·exact putD_below ((hB8.setCell (p:=⟨w.heap.size+1,0,none⟩) (by simp) _).setCell (p:=⟨w.heap.size+1+1,0,none⟩) (by show w.heap.size≤w.heap.size+1+1;omega) _) (by omega)
  case stop =>
   rintro D c pre M W hD hS _ ⟨rfl,⟨hB,hM⟩,⟨q1,m1⟩,⟨q2,m2⟩,hgt⟩ hK
   go_wp2
   have d1:=(putD_cell hK ⟨w.heap.size+1,0,none⟩).trans (q_cell q1 0)
   have d2:=(putD_cell hK ⟨w.heap.size+1+1,0,none⟩).trans (q_cell q2 0)
   have hlen:pre.length≤(solsL ls sum g []).length:=by have:=hS.length_le;simpa using this
   have hE2:refuteE cells ls sum g=22:=by rw[hE.out,if_neg (by omega)]
   refine marks_one (v := .tuple #[.slice none 0 0,.int .i64 22]) hK rfl ?_ ⟨none,0,0,?_,?_,Nat.le_refl _,?_⟩
   ·simp[results,Tryz.f17,go_sem,d1,d2]
   ·rw[hE2]
   ·unfold refuteT;rw[hE2,if_neg (by decide)];exact HNIL.out _
   ·exact putD_below hB (by omega)
end
section
open Go Go.RowKit
attribute [local go_sem] over_cell
attribute [local go_sem] Oper.semAt_some
def RdC (w:World) (rb:Nat) (a:Option Addr) (n c i:Nat):Prop:=w.heap[rb]?=some (.cells #[.slice a n c,.int .i64 (i:Nat)] 129 (0,0))
theorem next_end (rb:Nat) (a:Option Addr) (n c:Nat) (w:World) (hr:RdC w rb a n c n) :
  Calls Tryz.prog 78 #[.pointer (some ⟨rb,0,none⟩)] w fun e w'=>e = .returned (.tuple #[.agg #[.string ⟨#[]⟩,.int .i64 0,.int .i64 0,.int .i64 0,.int .i64 0],.bool false])∧Below w.heap.size w w':=by
 have HR:=Lib.hid hr
 clear hr
 go_enter Tryz.func78,Tryz.ntmps78
 go_wp2_with fail
 have fsz:(w.alloc (.cells #[.string ⟨#[]⟩,.int .i64 0,.int .i64 0,.int .i64 0,.int .i64 0] 104)).heap.size=w.heap.size+1:=by simp only[World.size_alloc]
 have fB:Below w.heap.size w (w.alloc (.cells #[.string ⟨#[]⟩,.int .i64 0,.int .i64 0,.int .i64 0,.int .i64 0] 104)):=(Below.refl _ _).alloc (Nat.le_refl _) _
 have fq0:(w.alloc (.cells #[.string ⟨#[]⟩,.int .i64 0,.int .i64 0,.int .i64 0,.int .i64 0] 104)).heap[w.heap.size]?=some (.cells #[.string ⟨#[]⟩,.int .i64 0,.int .i64 0,.int .i64 0,.int .i64 0] 104 (0,0)):=by have h:=World.alloc_heap_new w (.cells #[.string ⟨#[]⟩,.int .i64 0,.int .i64 0,.int .i64 0,.int .i64 0] 104);exact h
 generalize (w.alloc (.cells #[.string ⟨#[]⟩,.int .i64 0,.int .i64 0,.int .i64 0,.int .i64 0] 104))=W0 at fsz fB fq0 ⊢
 have c0:W0.cell? ⟨rb,0,none⟩=some (.slice a n c):=q_cell (keepq fB HR.out) 0
 have c1:W0.cell? ⟨rb,1,none⟩=some (.int .i64 (n:Nat)):=q_cell (keepq fB HR.out) 1
 have hl:=q_lt (keepq fB HR.out)
 have HQ:=Lib.hid fq0
 clear fq0 fsz
 refine wp_region_S (fun w'=>∃u,w'=over (W0) u) [] [(0,0),(0,1),(0,2),(0,3),(0,4),(0,5),(0,6),(0,7),(0,8),(0,9)] (by kernel_rfl) (by kernel_rfl) (by exact ⟨_,below_over (by repeat (first|assumption|exact Below.refl _ _|refine keep_drew ?_|refine keep_alloc ?_ _|refine keep_trans ?_ (by assumption)))⟩) ?_
 dsimp only[pickOps,nthOp]
 repeat (first|(refine wpS_skip rfl (fun K hK=>?_);go_big_quiet_op;refine hK _ ?_;clear hK K)|(refine wpS_quiet rfl rfl (fun K hK=>?_);go_big_quiet_op;refine hK _ ?_;clear hK K))
 refine wpS_end ?_
 have r0:W0.cell? ⟨w.heap.size,0,none⟩=some (.string ⟨#[]⟩):=q_cell HQ.out 0
 have r1:W0.cell? ⟨w.heap.size,1,none⟩=some (.int .i64 0):=q_cell HQ.out 1
 have r2:W0.cell? ⟨w.heap.size,2,none⟩=some (.int .i64 0):=q_cell HQ.out 2
 have r3:W0.cell? ⟨w.heap.size,3,none⟩=some (.int .i64 0):=q_cell HQ.out 3
 have r4:W0.cell? ⟨w.heap.size,4,none⟩=some (.int .i64 0):=q_cell HQ.out 4
 have rf0:=q_free HQ.out 0
 have rf1:=q_free HQ.out 1
 have rf2:=q_free HQ.out 2
 have rf3:=q_free HQ.out 3
 have rf4:=q_free HQ.out 4
 have rl:=q_lt HQ.out
 go_wp2
 have r:=q_set (i:=4) (q_set (i:=3) (q_set (i:=2) (q_set (i:=1) (q_set (i:=0) HQ.out (.string ⟨#[]⟩)) (.int .i64 0)) (.int .i64 0)) (.int .i64 0)) (.int .i64 0)
 have z0:=q_cell r 0
 have z1:=q_cell r 1
 have z2:=q_cell r 2
 have z3:=q_cell r 3
 have z4:=q_cell r 4
 refine bodyPost_ret (v := .tuple #[.agg #[.string ⟨#[]⟩,.int .i64 0,.int .i64 0,.int .i64 0,.int .i64 0],.bool false]) ?_ rfl ⟨rfl,(((((fB.setCell (p:=⟨w.heap.size,0,none⟩) (Nat.le_refl _) _).setCell (p:=⟨w.heap.size,1,none⟩) (Nat.le_refl _) _).setCell (p:=⟨w.heap.size,2,none⟩) (Nat.le_refl _) _).setCell (p:=⟨w.heap.size,3,none⟩) (Nat.le_refl _) _).setCell (p:=⟨w.heap.size,4,none⟩) (Nat.le_refl _) _).drew⟩
 simp[results,Tryz.f78,go_sem,z0,z1,z2,z3,z4]
theorem next_node (rb:Nat) (a:Option Addr) (n c i:Nat) (T:List Nd) (d:Nd) (w:World) (hr:RdC w rb a n c i) (ht:TC w a n T) (hd:T[i]?=some d) (hrb:∀p,a=some p→p.block≠rb) :
  Calls Tryz.prog 78 #[.pointer (some ⟨rb,0,none⟩)] w fun e w'=>e = .returned (.tuple #[ndV d,.bool true])∧RdC w' rb a n c (i+1)∧Stays (fun k=>k=rb) w w':=by
 have HR:=Lib.hid hr
 have hin:i<n:=by
  have h1:=ht.1.1
  rcases Nat.lt_or_ge i T.length with h2|h2
  ·omega
  ·rw[List.getElem?_eq_none h2] at hd;cases hd
 have hns:=ht.1.2
 obtain ⟨bt,off,rfl,hbt,t0,t1,t2,t3,t4⟩:=ht.2 i d hd
 have hne:bt≠rb:=hrb _ rfl
 clear hr ht hd hrb
 go_enter Tryz.func78,Tryz.ntmps78
 go_wp2_with fail
 have fsz:(w.alloc (.cells #[.string ⟨#[]⟩,.int .i64 0,.int .i64 0,.int .i64 0,.int .i64 0] 104)).heap.size=w.heap.size+1:=by simp only[World.size_alloc]
 have fB:Below w.heap.size w (w.alloc (.cells #[.string ⟨#[]⟩,.int .i64 0,.int .i64 0,.int .i64 0,.int .i64 0] 104)):=(Below.refl _ _).alloc (Nat.le_refl _) _
 have fq0:(w.alloc (.cells #[.string ⟨#[]⟩,.int .i64 0,.int .i64 0,.int .i64 0,.int .i64 0] 104)).heap[w.heap.size]?=some (.cells #[.string ⟨#[]⟩,.int .i64 0,.int .i64 0,.int .i64 0,.int .i64 0] 104 (0,0)):=by have h:=World.alloc_heap_new w (.cells #[.string ⟨#[]⟩,.int .i64 0,.int .i64 0,.int .i64 0,.int .i64 0] 104);exact h
 generalize (w.alloc (.cells #[.string ⟨#[]⟩,.int .i64 0,.int .i64 0,.int .i64 0,.int .i64 0] 104))=W0 at fsz fB fq0 ⊢
 have hq:=keepq fB HR.out
 have c0:W0.cell? ⟨rb,0,none⟩=some (.slice (some ⟨bt,off,none⟩) n c):=q_cell hq 0
 have c1:W0.cell? ⟨rb,1,none⟩=some (.int .i64 (i:Nat)):=q_cell hq 1
 have cf1:=q_free hq 1
 have hl:=q_lt hq
 have hwr:=q_lt HR.out
 have HQ:=Lib.hid fq0
 have HRQ:=Lib.hid hq
 have hin1:(((i:Nat):Int)==((n:Nat):Int))=false:=beq_eq_false_iff_ne.2 (by omega)
 clear fq0 fsz hq
 refine wp_region_S (fun w'=>∃u,w'=over (W0) u) [] [(0,0),(0,1),(0,2),(0,3),(0,4),(0,5),(0,6),(0,7),(0,8),(0,9)] (by kernel_rfl) (by kernel_rfl) (by exact ⟨_,below_over (by repeat (first|assumption|exact Below.refl _ _|refine keep_drew ?_|refine keep_alloc ?_ _|refine keep_trans ?_ (by assumption)))⟩) ?_
 dsimp only[pickOps,nthOp]
 repeat (first|(refine wpS_skip rfl (fun K hK=>?_);go_big_quiet_op;refine hK _ ?_;clear hK K)|(refine wpS_quiet rfl rfl (fun K hK=>?_);go_big_quiet_op;refine hK _ ?_;clear hK K))
 refine wpS_end ?_
 go_upto_region 4 with fail
 have q1:=q_set (i:=1) HRQ.out (.int .i64 ((i:Int)+1))
 have q2:=q_other (b':=rb) (i:=1) HQ.out (by omega) (.int .i64 ((i:Int)+1))
 have k0:∀o v,w.cell? ⟨bt,o,none⟩=some v→(W0.setCell ⟨rb,1,none⟩ (.int .i64 ((i:Int)+1))).cell? ⟨bt,o,none⟩=some v:=fun o v h=>(World.cell?_setCell_other _ _ _ _ (fun e=>by simp only[Addr.mk.injEq] at e;exact hne e.1.symm)).trans (((bcell fB).1 _ _ hbt).trans h)
 have u0:=k0 _ _ t0
 have u1:=k0 _ _ t1
 have u2:=k0 _ _ t2
 have u3:=k0 _ _ t3
 have u4:=k0 _ _ t4
 have hsz1:(W0.setCell ⟨rb,1,none⟩ (.int .i64 ((i:Int)+1))).heap.size=W0.heap.size:=by simp[World.setCell]
 have hst1:Stays (fun k=>k=rb) w (W0.setCell ⟨rb,1,none⟩ (.int .i64 ((i:Int)+1))):=(Below.stays fB _).trans (Stays.setCell (S:=fun k=>k=rb) W0 (p:=⟨rb,1,none⟩) rfl _) (fun _ e => .inl e)
 have hbt0:bt<(W0.setCell ⟨rb,1,none⟩ (.int .i64 ((i:Int)+1))).heap.size:=by have:=fB.size;omega
 clear c0 c1 cf1 t0 t1 t2 t3 t4 k0 hsz1
 obtain ⟨W1,hW1⟩:∃W1,W1=(W0.setCell ⟨rb,1,none⟩ (.int .i64 ((i:Int)+1))).drew:=⟨_,rfl⟩
 have p1:W1.heap[rb]?=some (.cells #[.slice (some ⟨bt,off,none⟩) n c,.int .i64 ((i:Int)+1)] 129 (0,0)):=by rw[hW1];exact q1
 have p2:W1.heap[w.heap.size]?=some (.cells #[.string ⟨#[]⟩,.int .i64 0,.int .i64 0,.int .i64 0,.int .i64 0] 104 (0,0)):=by rw[hW1];exact q2
 have v0:W1.cell? ⟨bt,off+i*5,none⟩=some (.string d.kind):=by rw[hW1];exact u0
 have v1:W1.cell? ⟨bt,off+i*5+1,none⟩=some (.int .i64 d.cell):=by rw[hW1];exact u1
 have v2:W1.cell? ⟨bt,off+i*5+2,none⟩=some (.int .i64 d.line):=by rw[hW1];exact u2
 have v3:W1.cell? ⟨bt,off+i*5+3,none⟩=some (.int .i64 d.number):=by rw[hW1];exact u3
 have v4:W1.cell? ⟨bt,off+i*5+4,none⟩=some (.int .i64 d.kids):=by rw[hW1];exact u4
 have hstW:Stays (fun k=>k=rb) w W1:=by rw[hW1];exact hst1.drew
 have hbW:bt<W1.heap.size:=by rw[hW1];exact hbt0
 rw[← hW1]
 have P1:=Lib.hid p1
 have P2:=Lib.hid p2
 have HST:=Lib.hid hstW
 have c0:W1.cell? ⟨rb,0,none⟩=some (.slice (some ⟨bt,off,none⟩) n c):=q_cell p1 0
 have c1:W1.cell? ⟨rb,1,none⟩=some (.int .i64 ((i:Int)+1)):=q_cell p1 1
 have cl:=q_lt p1
 have r0:W1.cell? ⟨w.heap.size,0,none⟩=some (.string ⟨#[]⟩):=q_cell p2 0
 have r1:W1.cell? ⟨w.heap.size,1,none⟩=some (.int .i64 0):=q_cell p2 1
 have r2:W1.cell? ⟨w.heap.size,2,none⟩=some (.int .i64 0):=q_cell p2 2
 have r3:W1.cell? ⟨w.heap.size,3,none⟩=some (.int .i64 0):=q_cell p2 3
 have r4:W1.cell? ⟨w.heap.size,4,none⟩=some (.int .i64 0):=q_cell p2 4
 have rf0:=q_free p2 0
 have rf1:=q_free p2 1
 have rf2:=q_free p2 2
 have rf3:=q_free p2 3
 have rf4:=q_free p2 4
 have rl:=q_lt p2
 have hii:(i:Int)<(n:Int):=by omega
 clear hW1 q1 q2 u0 u1 u2 u3 u4 hst1 hbt0 p1 p2 hstW hin1
 refine wp_region_T (fun w'=>∃u,w'=over (W1) u) [0,1,2,4,5,6] [11,12] [(0,3),(0,7),(0,8),(0,9),(0,10),(2,11),(2,12)] (by kernel_rfl) (by kernel_rfl) (by exact ⟨_,below_over (by repeat (first|assumption|exact Below.refl _ _|refine keep_drew ?_|refine keep_alloc ?_ _|refine keep_trans ?_ (by assumption)))⟩) ?_
 dsimp only[pickF,nthOp]
 repeat (first|(refine wpF_skip rfl (fun K hK=>?_);go_big_quiet_op;refine hK _ ?_;clear hK K)|(refine wpF_quiet rfl rfl (fun K hK=>?_);go_big_quiet_op;refine hK _ ?_;clear hK K))
 refine wpF_end ?_
 dsimp only[pickOps,nthOp]
 repeat (first|(refine wpS_skip rfl (fun K hK=>?_);go_big_quiet_op;refine hK _ ?_;clear hK K)|(refine wpS_quiet rfl rfl (fun K hK=>?_);go_big_quiet_op;refine hK _ ?_;clear hK K))
 refine wpS_late _ _ _ rfl ?_
 dsimp only[List.map]
 go_wp2
 refine NoPanic.normal ?_
 go_wp2
 have r:=q_set (i:=4) (q_set (i:=3) (q_set (i:=2) (q_set (i:=1) (q_set (i:=0) P2.out (.string d.kind)) (.int .i64 d.cell)) (.int .i64 d.line)) (.int .i64 d.number)) (.int .i64 d.kids)
 have z0:=q_cell r 0
 have z1:=q_cell r 1
 have z2:=q_cell r 2
 have z3:=q_cell r 3
 have z4:=q_cell r 4
 refine bodyPost_ret (v := .tuple #[ndV d,.bool true]) ?_ rfl ⟨rfl,?_,?_⟩
 ·simp[results,Tryz.f78,go_sem,z0,z1,z2,z3,z4,ndV]
 ·have hx:∀(q:Nat) (u:Value) (W:World) (o:Obj),W.heap[rb]?=some o→(W.setCell ⟨w.heap.size,q,none⟩ u).heap[rb]?=some o:=fun q u W o h=>q_other h (by omega) u
  exact hx _ _ _ _ (hx _ _ _ _ (hx _ _ _ _ (hx _ _ _ _ (hx _ _ _ _ (by rw[P1.out];rfl)))))
 ·have hx:∀(q:Nat) (u:Value) (W:World),Stays (fun k=>k=rb) w W→Stays (fun k=>k=rb) w (W.setCell ⟨w.heap.size,q,none⟩ u):=fun q u W h=>h.trans (Stays.setCell (S:=fun k=>k=w.heap.size) W (p:=⟨w.heap.size,q,none⟩) rfl u) (fun j e => .inr (by omega))
  exact (hx _ _ _ (hx _ _ _ (hx _ _ _ (hx _ _ _ (hx _ _ _ HST.out))))).drew
end
end Go.Proofs.YtaadpihbjhachaaGreat
