/- Texts A8 to A10 of this proof, in one file. -/
import Derived.Test.YtcblpobiefmjmaaGreatW06
import Derived.Test.YtcblpobiefmjmaaGreatW07
import Derived.Test.YtcblpobiefmjmaaGreatW08
import Derived.Test.YtcblpobiefmjmaaGreatW30
import Derived.Test.YtcblpobiefmjmaaGreatW40
import Derived.Test.YtcblpobiefmjmaaGreatW54
import Derived.Test.YtcblpobiefmjmaaGreatW55
import Derived.Deep.CutBlock
import Derived.Deep.CutRange
namespace Go.Proofs.YtcblpobiefmjmaaGreat
set_option maxRecDepth 100000
set_option maxHeartbeats 16000000
section
open Go Go.RowKit
theorem infoRefRem:(Tryz.prog.info? 55).map (fun i=>(i.zero,i.size,i.bytes))=some (some (.agg #[.string ⟨#[]⟩,.int .i64 0,.int .i64 0,.int .i64 0]),4,40):=by kernel_rfl
theorem rm_of_owns {w:World} {base n c m:Nat} {e:TypeId} {a:Option Addr} {R:List Rem} (h:w.ownsRow base e 4 (.slice a n c) m (remsL R)) (hn:R.length≤65536):RM w a n R∧n≤c:=by
 have hl:=h.1
 rw[remsL_len] at hl
 rcases h.2 with ⟨h2,h3⟩|⟨g,cap,cur,hv,hb,hh,hnc,hm,hs,ht⟩
 ·simp only[Value.slice.injEq] at h2
  obtain ⟨rfl,rfl,rfl⟩:=h2
  exact ⟨⟨⟨by omega,by omega⟩,fun k hk=>by omega⟩,by omega⟩
 ·simp only[Value.slice.injEq] at hv
  obtain ⟨rfl,rfl,rfl⟩:=hv
  refine ⟨⟨⟨by omega,by omega⟩,fun k hk=>⟨g,0,rfl,lt_of_block hh,fun q v hq=>?_⟩⟩,hnc⟩
  have hq4:q<4:=by
   rcases Nat.lt_or_ge q 4 with h|h
   ·exact h
   ·rw[List.getElem?_eq_none (by simpa [remA] using h)] at hq;cases hq
  have h4:=remsL_get R k q v (by omega) hq
  rw[← ht,List.getElem?_take,if_pos (by omega)] at h4
  rw[show 0+k*4+q=k*4+q from by omega,cell_of_row w g _ cur _ (0,0) hh]
  simpa using h4
theorem OB.drop {w:World} {L:Nat} {v:Value} {r:Nat} {vs:List Value} {Ms:List Nat} (h:OB w L v r vs Ms) {k m g c':Nat} (hm:1≤m) (e:vs[k]?=some (Value.slice (some ⟨g,0,none⟩) r c')):OB (w.setCell ⟨g,m,none⟩ (.bool false)) L v r vs (Ms.set k (clearBit (Ms[k]?.getD 0) (m - 1))):=by
 have hk:=(List.getElem?_eq_some_iff.1 e).1
 obtain ⟨g1,c1,e1,ho1,hn1⟩:=h.row k hk
 rw[e1] at e
 cases e
 refine ⟨ownsRow_setCell_other h.own (a:=⟨g,m,none⟩) hn1 _,by rw[List.length_set,h.len],fun j hj=>?_,h.apart⟩
 obtain ⟨g2,c2,e2,ho2,hn2⟩:=h.row j hj
 refine ⟨g2,c2,e2,?_,hn2⟩
 by_cases hjk:j=k
 ·subst hjk
  rw[e2] at e1
  cases e1
  rw[List.getElem?_set_self (by rw[h.len];exact hj),Option.getD_some,← bitsL_clear hm]
  exact owns_set ho2 m _
 ·rw[List.getElem?_set_ne (fun h=>hjk h.symm)]
  refine ownsRow_setCell_other ho2 (a:=⟨g,m,none⟩) (fun e3=>?_) _
  have:=h.apart j k g2 c2 g c' hjk e2 e1
  cases e3
  exact this rfl
theorem OB.upto {w w':World} {L B:Nat} {v:Value} {r:Nat} {vs:List Value} {Ms:List Nat} (h:OB w L v r vs Ms) (hv:∀j,v.ownBlock=some j→j<B) (hr:∀k g c':Nat,vs[k]?=some (Value.slice (some ⟨g,0,none⟩) r c')→g<B) (hb:Below B w w'):OB w' L v r vs Ms :=
 ⟨owns_keep h.own (fun k e _=>hb.block k (hv k e)),h.len,fun k hk=>by
  obtain ⟨g,c',e,ho,hn⟩:=h.row k hk
  exact ⟨g,c',e,owns_keep ho (fun j ej _=>by cases ej;exact hb.block g (hr k g c' e)),hn⟩,h.apart⟩
theorem iter_bound {ls:List (List Int)} {sum:Int} {M n:Nat}:∀(k:Nat) (Ms:List Nat),BoundC Ms n→BoundC (iterR ls sum M k Ms).2 n
 | 0,_,h=>h
 | k+1,Ms,h=>by
  simp only[iterR]
  split
  ·exact h
  ·exact iter_bound k _ (bound_drop h)
theorem contraQ_ne {Ms:List Nat} (h:contraQ Ms=false):∀i,i<Ms.length→Ms[i]?.getD 0≠0:=by
 intro i hi e
 unfold contraQ at h
 rw[List.any_eq_false] at h
 have:=h i (by simpa using hi)
 rw[e] at this
 simp[cntB] at this
theorem ruleS_str (x:Nat):∃S,ruleS x = .string S:=by
 match x with
 | 0=>exact ⟨_,rfl⟩
 | 1=>exact ⟨_,rfl⟩
 | _+2=>exact ⟨_,rfl⟩
theorem elemsTo_succ (M k:Nat):elemsTo M (k+1)=elemsTo M k++if M.testBit k=true then [((k:Int)+1)] else []:=by
 unfold elemsTo
 rw[List.range_succ,List.filter_append,List.map_append]
 congr 1
 by_cases h:M.testBit k=true
 ·rw[if_pos h];simp[h]
 ·rw[if_neg h];simp[h]
def RulesOut (w w':World) (ls:List (List Int)) (sum:Int) (g:List Int) (e:Ending):Prop :=
 ∃k ar nr cr v pre,e = .returned (.tuple #[.slice ar nr cr,v])∧stepR ls sum (allM g.length) (iterR ls sum (allM g.length) k (begL g)).2=none∧RM w' ar nr (iterR ls sum (allM g.length) k (begL g)).1∧RowsI w' noB w.heap.size v pre∧pre.map Prod.snd=candL (allM g.length) (iterR ls sum (allM g.length) k (begL g)).2∧Below w.heap.size w w'
def RulesEnd (w:World) (ls:List (List Int)) (sum:Int) (g:List Int) (n':Nat):Prop :=
 ∀(k:Nat) (ar:Option Addr) (nr cr:Nat) (v:Value) (pre:List (Value × List Int)) (w':World),stepR ls sum (allM n') (iterR ls sum (allM n') k (begL g)).2=none→RM w' ar nr (iterR ls sum (allM n') k (begL g)).1→RowsI w' noB w.heap.size v pre→pre.map Prod.snd=candL (allM n') (iterR ls sum (allM n') k (begL g)).2→Below w.heap.size w w' →
  RulesOut w w' ls sum g (.returned (.tuple #[.slice ar nr cr,v]))
structure RulI (ls:List (List Int)) (sum:Int) (g:List Int) (n':Nat) (vs:List Value) (W0 W2:World) (av:Option Addr) (cv k:Nat) (ao:Option Addr) (co:Nat) (wv:World):Prop where
 own:wv.ownsRow W2.heap.size 55 4 (.slice ao (iterR ls sum (allM n') k (begL g)).1.length co) (iterR ls sum (allM n') k (begL g)).1.length (remsL (iterR ls sum (allM n') k (begL g)).1)
 ob:OB wv W0.heap.size (.slice av n' cv) (n'+1) vs (iterR ls sum (allM n') k (begL g)).2
 bel:Below W0.heap.size W0 wv
 size:W2.heap.size≤wv.heap.size
 le:(iterR ls sum (allM n') k (begL g)).1.length+candN (iterR ls sum (allM n') k (begL g)).2≤65536
end
section
open Go Go.RowKit
attribute [local go_sem] over_cell
attribute [local go_sem] Oper.semAt_some
def lightB (op cells sum:Int) (ls:List (List Int)) (g:List Int):Bool:=short6B 40 ls g&&((taskErr cells ls sum g != 0)||few6B 16 op cells sum ls g)
theorem l4 {w:World} {b:Nat} {v0 v1 v2 v3:Value} {T:TypeId} (h:w.heap[b]?=some (.cells #[v0,v1,v2,v3] T (0,0))):w.cell? ⟨b,0,none⟩=some v0∧w.cell? ⟨b,1,none⟩=some v1∧w.cell? ⟨b,2,none⟩=some v2∧w.cell? ⟨b,3,none⟩=some v3∧b<w.heap.size:=⟨q_cell h 0,q_cell h 1,q_cell h 2,q_cell h 3,q_lt h⟩
theorem light_c (a:Option Addr) (n c:Nat) (ls:List (List Int)) (cells sum:Int) (a':Option Addr) (n' c':Nat) (g:List Int) (op:Int) (w:World) (h:RC w a n ls) (hcap:n≤c) (h':IC w a' n' g) (hcap':n'≤c') :
  Calls Tryz.prog 24 #[.agg #[.int .i64 cells,.slice a n c,.int .i64 sum,.slice a' n' c'],.int .i64 op] w fun e w'=>e = .returned (.bool (lightB op cells sum ls g))∧Below w.heap.size w w':=by
 have HS:=Lib.hid (fun w1 (hb:Below w.heap.size w w1)=>short6_c a n c ls cells sum a' n' c' g 40 w1 (h.mono hb) (h'.mono hb))
 have HT:=Lib.hid (fun w1 (hb:Below w.heap.size w w1)=>rtask_c a n c ls cells sum a' n' c' g w1 (h.mono hb) hcap (h'.mono hb) hcap')
 have HF:=Lib.hid (fun w1 (hb:Below w.heap.size w w1)=>few6_c a n c ls cells sum a' n' c' g 16 op w1 (h.mono hb) hcap (h'.mono hb) hcap')
 have HE:Hid (lightB op cells sum ls g=(short6B 40 ls g&&((taskErr cells ls sum g != 0)||few6B 16 op cells sum ls g))):=rfl
 clear h h'
 generalize lightB op cells sum ls g=lb at HE ⊢
 generalize short6B 40 ls g=sb at HS HE
 generalize taskErr cells ls sum g=te at HT HE
 generalize few6B 16 op cells sum ls g=fb at HF HE
 go_enter Tryz.func24,Tryz.ntmps24
 go_upto_region 2 with fail
 have fsz:((w.alloc (.cells #[.int .i64 cells,.slice a n c,.int .i64 sum,.slice a' n' c'] 27)).alloc (.cells #[.int .i64 cells,.slice a n c,.int .i64 sum,.slice a' n' c'] 28)).heap.size=w.heap.size+2:=by simp only[World.size_alloc] <;> omega
 have fB:Below w.heap.size w ((w.alloc (.cells #[.int .i64 cells,.slice a n c,.int .i64 sum,.slice a' n' c'] 27)).alloc (.cells #[.int .i64 cells,.slice a n c,.int .i64 sum,.slice a' n' c'] 28)):=((Below.refl _ _).alloc (Nat.le_refl _) _).alloc (by simp only[World.size_alloc];omega) _
 have fq0:((w.alloc (.cells #[.int .i64 cells,.slice a n c,.int .i64 sum,.slice a' n' c'] 27)).alloc (.cells #[.int .i64 cells,.slice a n c,.int .i64 sum,.slice a' n' c'] 28)).heap[w.heap.size]?=some (.cells #[.int .i64 cells,.slice a n c,.int .i64 sum,.slice a' n' c'] 27 (0,0)):=by have h:=World.alloc_heap_new w (.cells #[.int .i64 cells,.slice a n c,.int .i64 sum,.slice a' n' c'] 27);exact (Below.heap_alloc _ _ _ (by simp only[World.size_alloc];omega)).trans (h)
 have fq1:((w.alloc (.cells #[.int .i64 cells,.slice a n c,.int .i64 sum,.slice a' n' c'] 27)).alloc (.cells #[.int .i64 cells,.slice a n c,.int .i64 sum,.slice a' n' c'] 28)).heap[w.heap.size+1]?=some (.cells #[.int .i64 cells,.slice a n c,.int .i64 sum,.slice a' n' c'] 28 (0,0)):=by have h:=World.alloc_heap_new (w.alloc (.cells #[.int .i64 cells,.slice a n c,.int .i64 sum,.slice a' n' c'] 27)) (.cells #[.int .i64 cells,.slice a n c,.int .i64 sum,.slice a' n' c'] 28);simp only[World.size_alloc] at h;exact h
 generalize ((w.alloc (.cells #[.int .i64 cells,.slice a n c,.int .i64 sum,.slice a' n' c'] 27)).alloc (.cells #[.int .i64 cells,.slice a n c,.int .i64 sum,.slice a' n' c'] 28))=W0 at fsz fB fq0 fq1 ⊢
 have HX:=Lib.hid (fun W (hb:Below W0.heap.size W0 W)=>l4 (keepq hb fq1))
 have hcur:Below W0.heap.size W0 W0:=Below.refl _ _
 obtain ⟨x0,x1,x2,x3,xl⟩:=HX.out _ hcur
 clear fq0 fq1 fsz
 cases sb with
 | false =>
  go_wp2_with (first|(go_at_call 14;refine (HS.out _ (keep_trans fB hcur)).mono ?_;rintro _ w1 ⟨rfl,hb1⟩;replace hcur:=keep_trans hcur hb1;clear x0 x1 x2 x3 xl;obtain ⟨x0,x1,x2,x3,xl⟩:=HX.out _ hcur))
  go_ret
  exact ⟨ret_bool (by rw[HE.out];rfl),keep_trans fB hcur⟩
 | true =>
  cases ht:(te != 0) with
  | true =>
   rw[ht] at HE
   go_wp2_with (first|(go_at_call 14;refine (HS.out _ (keep_trans fB hcur)).mono ?_;rintro _ w1 ⟨rfl,hb1⟩;replace hcur:=keep_trans hcur hb1;clear x0 x1 x2 x3 xl;obtain ⟨x0,x1,x2,x3,xl⟩:=HX.out _ hcur)|(go_at_call 15;refine (HT.out _ (keep_trans fB hcur)).mono ?_;rintro _ w1 ⟨rfl,hb1⟩;replace hcur:=keep_trans hcur hb1;clear x0 x1 x2 x3 xl;obtain ⟨x0,x1,x2,x3,xl⟩:=HX.out _ hcur))
   go_ret
   exact ⟨ret_bool (by rw[HE.out];rfl),keep_trans fB hcur⟩
  | false =>
   rw[ht] at HE
   go_wp2_with (first|(go_at_call 14;refine (HS.out _ (keep_trans fB hcur)).mono ?_;rintro _ w1 ⟨rfl,hb1⟩;replace hcur:=keep_trans hcur hb1;clear x0 x1 x2 x3 xl;obtain ⟨x0,x1,x2,x3,xl⟩:=HX.out _ hcur)|(go_at_call 15;refine (HT.out _ (keep_trans fB hcur)).mono ?_;rintro _ w1 ⟨rfl,hb1⟩;replace hcur:=keep_trans hcur hb1;clear x0 x1 x2 x3 xl;obtain ⟨x0,x1,x2,x3,xl⟩:=HX.out _ hcur)|(go_at_call 32;refine (HF.out _ (keep_trans fB hcur)).mono ?_;rintro _ w1 ⟨rfl,hb1⟩;replace hcur:=keep_trans hcur hb1;clear x0 x1 x2 x3 xl;obtain ⟨x0,x1,x2,x3,xl⟩:=HX.out _ hcur))
   go_ret
   exact ⟨ret_bool (by rw[HE.out];rfl),keep_trans fB hcur⟩
end
end Go.Proofs.YtcblpobiefmjmaaGreat
