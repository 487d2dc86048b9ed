/- Texts Q3 to Q3 of this proof, in one file. -/
import Derived.Test.YtcblpobiefmjmaaGreatW19
import Derived.Test.YtcblpobiefmjmaaGreatW20
import Derived.Test.YtcblpobiefmjmaaGreatW27
import Derived.Test.YtcblpobiefmjmaaGreatW28
import Derived.Test.YtcblpobiefmjmaaGreatW31
namespace Go.Proofs.YtcblpobiefmjmaaGreat
set_option maxRecDepth 100000
set_option maxHeartbeats 16000000
section
open Go Go.RowKit
attribute [local go_sem] over_cell
attribute [local go_sem] Oper.semAt_some
theorem made_all {cells : Int} {ls : List (List Int)} {sum : Int} {g : List Int} (G : GoodTask cells ls sum g) (h6 : (openL g).length ≤ 6) (hns : (solsL ls sum g []).length = 0) {T : List Nd} (hT : madeT ls sum ((openL g).length + 1) g = T) :
  okTB ls sum ((openL g).length + 1) g = true ∧ T.length ≤ 1957 ∧ treeErr g.length T = 0 ∧ provesT ls sum g T = true := by
 obtain ⟨h1, h2, h3, h4⟩ := made_good (openL g).length g G rfl ((no_sols G).1 hns)
 rw [hT] at h2 h3 h4
 have hm : mB (openL g).length ≤ 1957 := by
  have : ∀ n, n ≤ 6 → mB n ≤ 1957 := by decide
  exact this _ h6
 refine ⟨h1, by omega, ?_, ?_⟩
 ·unfold treeErr
  rw [if_neg (by omega)]
  refine errs_none (fun k hk => ?_)
  unfold ndAt
  rw [List.getElem?_eq_getElem hk]
  exact h3 _ (List.getElem_mem hk)
 ·have h5 := h4 (T.length + 1 + (openL g).length + 1) (by omega) []
  rw [List.append_nil] at h5
  rw [refT_fuel ls sum _ (T.length + 1) g T (by omega) (by omega)] at h5
  rw [proves_some h5]
  rfl
theorem frefutes_c (a : Option Addr) (n c : Nat) (ls : List (List Int)) (cells sum : Int) (a' : Option Addr) (n' c' : Nat) (g : List Int) (w : World) (h : RC w a n ls) (hcap : n ≤ c) (h' : IC w a' n' g) (hcap' : n' ≤ c') :
  Calls Tryz.prog 3 #[.agg #[.int .i64 cells, .slice a n c, .int .i64 sum, .slice a' n' c']] w fun e w' => e = .returned (.bool true) ∧ Below w.heap.size w w' := by
 have HA := Lib.hid awake_c
 have hgl := Lib.hid h'.len
 have HSH := Lib.hid (fun w1 (hb : Below w.heap.size w w1) => short6_c a n c ls cells sum a' n' c' g 40 w1 (h.mono hb) (h'.mono hb))
 have HTK := Lib.hid (fun w1 (hb : Below w.heap.size w w1) => rtask_c a n c ls cells sum a' n' c' g w1 (h.mono hb) hcap (h'.mono hb) hcap')
 have HOP := Lib.hid (fun w1 (hb : Below w.heap.size w w1) => ropen_c (.slice a n c) cells sum a' n' c' g w1 (h'.mono hb))
 have HRF := Lib.hid (fun (hok : refuteE cells ls sum g = 0 → okTB ls sum ((openL g).length + 1) g = true ∧ (madeT ls sum ((openL g).length + 1) g).length ≤ 1000000000000) w1 (hb : Below w.heap.size w w1) => refute_c a n c ls cells sum a' n' c' g ((openL g).length + 1) w1 (h.mono hb) hcap (h'.mono hb) hcap' hok)
 have HSO := Lib.hid (fun (G : GoodTask cells ls sum g) (h7 : (openL g).length ≤ 7) w1 (hb : Below w.heap.size w w1) => rsols_c G a n c a' n' c' 1 w1 (h.mono hb) (h'.mono hb) h7 (by decide) (by decide))
 have HTR := Lib.hid (fun (T : List Nd) ar nr cr w1 (ht : TC w1 ar nr T) => rtree_c (.int .i64 cells) (.slice a n c) (.int .i64 sum) a' n' c' ar nr cr T w1 ht)
 have HRE := Lib.hid (fun (G : GoodTask cells ls sum g) (T : List Nd) (hkd : ∀ d, d ∈ T → kindB d.kind = true) ar nr cr w1 (hb : Below w.heap.size w w1) (ht : TC w1 ar nr T) => rrefutes_c G a n c a' n' c' ar nr cr T w1 (h.mono hb) (h'.mono hb) ht hkd)
 have HCK := Lib.hid (fun (T : List Nd) ar nr cr w1 (hb : Below w.heap.size w w1) (ht : TC w1 ar nr T) => checkref_c a n c ls cells sum a' n' c' g ar nr cr T w1 (h.mono hb) hcap (h'.mono hb) hcap' ht)
 have HGT : Hid (taskErr cells ls sum g = 0 → GoodTask cells ls sum g) := goodTask
 have hRE : Hid (refuteE cells ls sum g = if (smallErr cells ls sum g != 0) = true then smallErr cells ls sum g else if (solsL ls sum g []).length = 0 then 0 else 22) := rfl
 have hRT : Hid (refuteT cells ls sum ((openL g).length + 1) g = if refuteE cells ls sum g = 0 then madeT ls sum ((openL g).length + 1) g else []) := rfl
 have hSE : Hid (smallErr cells ls sum g = if (taskErr cells ls sum g != 0) = true then taskErr cells ls sum g else whenV (decide (((openL g).length : Int) > 16)) 20) := rfl
 have hCR : Hid (∀ T, refErr cells ls sum g T = if taskErr cells ls sum g ≠ 0 then taskErr cells ls sum g else if treeErr g.length T ≠ 0 then treeErr g.length T else whenV (!provesT ls sum g T) 19) := fun T => rfl
 have HS1 : Hid (∀ (G : GoodTask cells ls sum g), solsR ls sum g 1 = (solsL ls sum g []).take 1) := fun G => solsR_eq G 1
 have HMA : Hid (∀ (G : GoodTask cells ls sum g), (openL g).length ≤ 6 → (solsL ls sum g []).length = 0 → okTB ls sum ((openL g).length + 1) g = true ∧ (madeT ls sum ((openL g).length + 1) g).length ≤ 1957 ∧ treeErr g.length (madeT ls sum ((openL g).length + 1) g) = 0 ∧ provesT ls sum g (madeT ls sum ((openL g).length + 1) g) = true) := fun G h6 hn => made_all G h6 hn rfl
 clear h h'
 generalize refuteE cells ls sum g = E1 at HRF hRE hRT
 generalize refuteT cells ls sum ((openL g).length + 1) g = T1 at HRF hRT
 generalize smallErr cells ls sum g = se at hRE hSE
 generalize taskErr cells ls sum g = te at HTK HGT hSE hCR
 generalize short6B 40 ls g = sb at HSH
 generalize hmt9 : madeT ls sum ((openL g).length + 1) g = MT at HRF hRT HMA
 generalize solsL ls sum g [] = SL at hRE HS1 HMA
 clear hmt9
 go_enter Tryz.func3, Tryz.ntmps3
 go_upto_region 2 with fail
 have fsz : ((w.alloc (.cells #[.int .i64 cells, .slice a n c, .int .i64 sum, .slice a' n' c'] 27)).alloc (.cells #[.int .i64 cells, .slice a n c, .int .i64 sum, .slice a' n' c'] 28)).heap.size = w.heap.size + 2 := by simp only [World.size_alloc] <;> omega
 have fB : Below w.heap.size w ((w.alloc (.cells #[.int .i64 cells, .slice a n c, .int .i64 sum, .slice a' n' c'] 27)).alloc (.cells #[.int .i64 cells, .slice a n c, .int .i64 sum, .slice a' n' c'] 28)) := ((Below.refl _ _).alloc (Nat.le_refl _) _).alloc (by simp only [World.size_alloc]; omega) _
 have fq0 : ((w.alloc (.cells #[.int .i64 cells, .slice a n c, .int .i64 sum, .slice a' n' c'] 27)).alloc (.cells #[.int .i64 cells, .slice a n c, .int .i64 sum, .slice a' n' c'] 28)).heap[w.heap.size]? = some (.cells #[.int .i64 cells, .slice a n c, .int .i64 sum, .slice a' n' c'] 27 (0, 0)) := by have h := World.alloc_heap_new w (.cells #[.int .i64 cells, .slice a n c, .int .i64 sum, .slice a' n' c'] 27); exact (Below.heap_alloc _ _ _ (by simp only [World.size_alloc]; omega)).trans (h)
 have fq1 : ((w.alloc (.cells #[.int .i64 cells, .slice a n c, .int .i64 sum, .slice a' n' c'] 27)).alloc (.cells #[.int .i64 cells, .slice a n c, .int .i64 sum, .slice a' n' c'] 28)).heap[w.heap.size + 1]? = some (.cells #[.int .i64 cells, .slice a n c, .int .i64 sum, .slice a' n' c'] 28 (0, 0)) := by have h := World.alloc_heap_new (w.alloc (.cells #[.int .i64 cells, .slice a n c, .int .i64 sum, .slice a' n' c'] 27)) (.cells #[.int .i64 cells, .slice a n c, .int .i64 sum, .slice a' n' c'] 28); simp only [World.size_alloc] at h; exact h
 generalize ((w.alloc (.cells #[.int .i64 cells, .slice a n c, .int .i64 sum, .slice a' n' c'] 27)).alloc (.cells #[.int .i64 cells, .slice a n c, .int .i64 sum, .slice a' n' c'] 28)) = W0 at fsz fB fq0 fq1 ⊢
 have HQ0 := Lib.hid fq0
 have HQ1 := Lib.hid fq1
 have x0 : W0.cell? ⟨w.heap.size + 1, 0, none⟩ = some (.int .i64 cells) := q_cell fq1 0
 have x1 : W0.cell? ⟨w.heap.size + 1, 1, none⟩ = some (.slice a n c) := q_cell fq1 1
 have x2 : W0.cell? ⟨w.heap.size + 1, 2, none⟩ = some (.int .i64 sum) := q_cell fq1 2
 have x3 : W0.cell? ⟨w.heap.size + 1, 3, none⟩ = some (.slice a' n' c') := q_cell fq1 3
 have xl := q_lt fq1
 have y0 : W0.cell? ⟨w.heap.size, 0, none⟩ = some (.int .i64 cells) := q_cell fq0 0
 have y1 : W0.cell? ⟨w.heap.size, 1, none⟩ = some (.slice a n c) := q_cell fq0 1
 have y2 : W0.cell? ⟨w.heap.size, 2, none⟩ = some (.int .i64 sum) := q_cell fq0 2
 have y3 : W0.cell? ⟨w.heap.size, 3, none⟩ = some (.slice a' n' c') := q_cell fq0 3
 have yl := q_lt fq0
 have hcur : Below W0.heap.size W0 W0 := Below.refl _ _
 clear fq0 fq1 fsz
 cases sb with
 | false =>
  go_wp2_with (first | (go_at_call 14; refine (HSH.out _ (keep_trans fB hcur)).mono ?_; rintro _ w1 ⟨rfl, hb1⟩; replace hcur := keep_trans hcur hb1; replace x0 := q_cell (keepq hcur HQ1.out) 0; replace x1 := q_cell (keepq hcur HQ1.out) 1; replace x2 := q_cell (keepq hcur HQ1.out) 2; replace x3 := q_cell (keepq hcur HQ1.out) 3; replace xl := q_lt (keepq hcur HQ1.out); replace y0 := q_cell (keepq hcur HQ0.out) 0; replace y1 := q_cell (keepq hcur HQ0.out) 1; replace y2 := q_cell (keepq hcur HQ0.out) 2; replace y3 := q_cell (keepq hcur HQ0.out) 3; replace yl := q_lt (keepq hcur HQ0.out)) | (go_at_call 17; refine (HA.out _).mono ?_; rintro _ w1 ⟨rfl, hb1⟩; replace hcur := keep_trans hcur hb1))
  go_ret
  exact ⟨rfl, keep_trans fB hcur⟩
 | true =>
  by_cases ht : te = 0
  ·subst ht
   have G := HGT.out rfl
   have HG := Lib.hid G
   rw [if_neg (by decide)] at hSE
   by_cases h6 : (openL g).length ≤ 6
   ·have h6i : ¬ (6 : Int) < ((openL g).length : Int) := by omega
    have h16i : ¬ (16 : Int) < ((openL g).length : Int) := by omega
    have hse : se = 0 := by rw [hSE.out, decide_eq_false (by omega)]; rfl
    have HSO := Lib.hid (HSO.out G (by omega))
    rw [HS1.out G] at HSO
    by_cases hs : SL.length = 0
    ·obtain ⟨m1, m2, m3, m4⟩ := HMA.out G h6 hs
     have hE1 : E1 = 0 := by rw [hRE.out, hse, if_neg (by decide), if_pos hs]
     have hT1 : T1 = MT := by rw [hRT.out, if_pos hE1]
     have HRF := Lib.hid (HRF.out (fun _ => ⟨m1, by omega⟩))
     rw [hE1, hT1] at HRF
     obtain ⟨S1, hS1⟩ : ∃ S1, SL.take 1 = S1 := ⟨_, rfl⟩
     have hS0 : S1.length = 0 := by rw [← hS1, List.length_take]; omega
     rw [hS1] at HSO
     have HRE := Lib.hid (HRE.out G MT (tree_kinds m3))
     have HTR := Lib.hid (HTR.out MT)
     have HCK := Lib.hid (HCK.out MT)
     rw [m4] at HRE
     have m5 : treeErr n' MT = 0 := by rw [← hgl.out]; exact m3
     rw [m5] at HTR
     have hce : refErr cells ls sum g MT = 0 := by rw [hCR.out, if_neg (by decide), m3, if_neg (by decide), m4]; rfl
     rw [hce] at HCK
     have hml : MT.length ≤ 1957 := m2
     clear m1 m2 m3 m4 m5 hE1 hT1 hS1 hce hs h6 hse hRE hRT hSE hCR HS1 HMA HGT G
     go_wp2_with (first | (go_at_call 14; refine (HSH.out _ (keep_trans fB hcur)).mono ?_; rintro _ w1 ⟨rfl, hb1⟩; replace hcur := keep_trans hcur hb1; replace x0 := q_cell (keepq hcur HQ1.out) 0; replace x1 := q_cell (keepq hcur HQ1.out) 1; replace x2 := q_cell (keepq hcur HQ1.out) 2; replace x3 := q_cell (keepq hcur HQ1.out) 3; replace xl := q_lt (keepq hcur HQ1.out); replace y0 := q_cell (keepq hcur HQ0.out) 0; replace y1 := q_cell (keepq hcur HQ0.out) 1; replace y2 := q_cell (keepq hcur HQ0.out) 2; replace y3 := q_cell (keepq hcur HQ0.out) 3; replace yl := q_lt (keepq hcur HQ0.out)) | (go_at_call 15; refine (HTK.out _ (keep_trans fB hcur)).mono ?_; rintro _ w1 ⟨rfl, hb1⟩; replace hcur := keep_trans hcur hb1; replace x0 := q_cell (keepq hcur HQ1.out) 0; replace x1 := q_cell (keepq hcur HQ1.out) 1; replace x2 := q_cell (keepq hcur HQ1.out) 2; replace x3 := q_cell (keepq hcur HQ1.out) 3; replace xl := q_lt (keepq hcur HQ1.out); replace y0 := q_cell (keepq hcur HQ0.out) 0; replace y1 := q_cell (keepq hcur HQ0.out) 1; replace y2 := q_cell (keepq hcur HQ0.out) 2; replace y3 := q_cell (keepq hcur HQ0.out) 3; replace yl := q_lt (keepq hcur HQ0.out)) | (go_at_call 16; refine (HOP.out _ (keep_trans fB hcur)).mono ?_; rintro _ w1 ⟨vo, rfl, howno, hb1⟩; obtain ⟨ao, co, rfl⟩ := owns_shape howno; clear howno; replace hcur := keep_trans hcur hb1; replace x0 := q_cell (keepq hcur HQ1.out) 0; replace x1 := q_cell (keepq hcur HQ1.out) 1; replace x2 := q_cell (keepq hcur HQ1.out) 2; replace x3 := q_cell (keepq hcur HQ1.out) 3; replace xl := q_lt (keepq hcur HQ1.out); replace y0 := q_cell (keepq hcur HQ0.out) 0; replace y1 := q_cell (keepq hcur HQ0.out) 1; replace y2 := q_cell (keepq hcur HQ0.out) 2; replace y3 := q_cell (keepq hcur HQ0.out) 3; replace yl := q_lt (keepq hcur HQ0.out)))
     refine (HRF.out _ (keep_trans fB hcur)).mono ?_
     rintro _ w1 ⟨ar, nr, cr, rfl, hT, hcr, hb1⟩
     replace hcur := keep_trans hcur hb1
     have hTl := hT.1.1
     replace x0 := q_cell (keepq hcur HQ1.out) 0
     replace x1 := q_cell (keepq hcur HQ1.out) 1
     replace x2 := q_cell (keepq hcur HQ1.out) 2
     replace x3 := q_cell (keepq hcur HQ1.out) 3
     replace xl := q_lt (keepq hcur HQ1.out)
     replace y0 := q_cell (keepq hcur HQ0.out) 0
     replace y1 := q_cell (keepq hcur HQ0.out) 1
     replace y2 := q_cell (keepq hcur HQ0.out) 2
     replace y3 := q_cell (keepq hcur HQ0.out) 3
     replace yl := q_lt (keepq hcur HQ0.out)
     go_wp2_with (first | (go_at_call 15; refine (HTK.out _ (keep_trans fB hcur)).mono ?_; rintro _ w1 ⟨rfl, hb1⟩; replace hcur := keep_trans hcur hb1; replace hT := hT.mono hb1; replace x0 := q_cell (keepq hcur HQ1.out) 0; replace x1 := q_cell (keepq hcur HQ1.out) 1; replace x2 := q_cell (keepq hcur HQ1.out) 2; replace x3 := q_cell (keepq hcur HQ1.out) 3; replace xl := q_lt (keepq hcur HQ1.out); replace y0 := q_cell (keepq hcur HQ0.out) 0; replace y1 := q_cell (keepq hcur HQ0.out) 1; replace y2 := q_cell (keepq hcur HQ0.out) 2; replace y3 := q_cell (keepq hcur HQ0.out) 3; replace yl := q_lt (keepq hcur HQ0.out)) | (go_at_call 16; refine (HOP.out _ (keep_trans fB hcur)).mono ?_; rintro _ w1 ⟨vo, rfl, howno, hb1⟩; obtain ⟨ao, co, rfl⟩ := owns_shape howno; clear howno; replace hcur := keep_trans hcur hb1; replace hT := hT.mono hb1; replace x0 := q_cell (keepq hcur HQ1.out) 0; replace x1 := q_cell (keepq hcur HQ1.out) 1; replace x2 := q_cell (keepq hcur HQ1.out) 2; replace x3 := q_cell (keepq hcur HQ1.out) 3; replace xl := q_lt (keepq hcur HQ1.out); replace y0 := q_cell (keepq hcur HQ0.out) 0; replace y1 := q_cell (keepq hcur HQ0.out) 1; replace y2 := q_cell (keepq hcur HQ0.out) 2; replace y3 := q_cell (keepq hcur HQ0.out) 3; replace yl := q_lt (keepq hcur HQ0.out)))
     refine (HSO.out _ (keep_trans fB hcur)).mono ?_
     rintro _ w1 ⟨⟨vf, pre, rfl, hr, hall, _⟩, hb1⟩
     have hpl : pre.length = S1.length := by rw [← hall, List.length_map]
     obtain ⟨a9, cs, e⟩ := owns_shape hr.1
     subst e
     rw [hpl]
     replace hcur := keep_trans hcur hb1
     replace hT := hT.mono hb1
     clear hr hall hpl
     replace x0 := q_cell (keepq hcur HQ1.out) 0
     replace x1 := q_cell (keepq hcur HQ1.out) 1
     replace x2 := q_cell (keepq hcur HQ1.out) 2
     replace x3 := q_cell (keepq hcur HQ1.out) 3
     replace xl := q_lt (keepq hcur HQ1.out)
     replace y0 := q_cell (keepq hcur HQ0.out) 0
     replace y1 := q_cell (keepq hcur HQ0.out) 1
     replace y2 := q_cell (keepq hcur HQ0.out) 2
     replace y3 := q_cell (keepq hcur HQ0.out) 3
     replace yl := q_lt (keepq hcur HQ0.out)
     rw [hS0]
     have hnr : (nr : Int) ≤ 20000 := by omega
     go_wp2_with (first | (go_at_call 20; refine (HTR.out _ _ _ _ hT).mono ?_; rintro _ w1 ⟨rfl, hb1⟩; replace hcur := keep_trans hcur hb1; replace hT := hT.mono hb1; replace x0 := q_cell (keepq hcur HQ1.out) 0; replace x1 := q_cell (keepq hcur HQ1.out) 1; replace x2 := q_cell (keepq hcur HQ1.out) 2; replace x3 := q_cell (keepq hcur HQ1.out) 3; replace xl := q_lt (keepq hcur HQ1.out); replace y0 := q_cell (keepq hcur HQ0.out) 0; replace y1 := q_cell (keepq hcur HQ0.out) 1; replace y2 := q_cell (keepq hcur HQ0.out) 2; replace y3 := q_cell (keepq hcur HQ0.out) 3; replace yl := q_lt (keepq hcur HQ0.out)) | (go_at_call 21; refine (HRE.out _ _ _ _ (keep_trans fB hcur) hT).mono ?_; rintro _ w1 ⟨rfl, hb1⟩; replace hcur := keep_trans hcur hb1; replace hT := hT.mono hb1; replace x0 := q_cell (keepq hcur HQ1.out) 0; replace x1 := q_cell (keepq hcur HQ1.out) 1; replace x2 := q_cell (keepq hcur HQ1.out) 2; replace x3 := q_cell (keepq hcur HQ1.out) 3; replace xl := q_lt (keepq hcur HQ1.out); replace y0 := q_cell (keepq hcur HQ0.out) 0; replace y1 := q_cell (keepq hcur HQ0.out) 1; replace y2 := q_cell (keepq hcur HQ0.out) 2; replace y3 := q_cell (keepq hcur HQ0.out) 3; replace yl := q_lt (keepq hcur HQ0.out)) | (go_at_call 22; refine (HCK.out _ _ _ _ (keep_trans fB hcur) hT).mono ?_; rintro _ w1 ⟨rfl, hb1⟩; replace hcur := keep_trans hcur hb1; replace hT := hT.mono hb1; replace x0 := q_cell (keepq hcur HQ1.out) 0; replace x1 := q_cell (keepq hcur HQ1.out) 1; replace x2 := q_cell (keepq hcur HQ1.out) 2; replace x3 := q_cell (keepq hcur HQ1.out) 3; replace xl := q_lt (keepq hcur HQ1.out); replace y0 := q_cell (keepq hcur HQ0.out) 0; replace y1 := q_cell (keepq hcur HQ0.out) 1; replace y2 := q_cell (keepq hcur HQ0.out) 2; replace y3 := q_cell (keepq hcur HQ0.out) 3; replace yl := q_lt (keepq hcur HQ0.out)) | (go_at_call 17; refine (HA.out _).mono ?_; rintro _ w1 ⟨rfl, hb1⟩; replace hcur := keep_trans hcur hb1))
     go_ret
     exact ⟨rfl, keep_trans fB hcur⟩
    ·have hE1 : E1 = 22 := by rw [hRE.out, hse, if_neg (by decide), if_neg hs]
     have hT1 : T1 = [] := by rw [hRT.out, hE1, if_neg (by decide)]
     have HRF := Lib.hid (HRF.out (fun e => by rw [hE1] at e; cases e))
     rw [hE1, hT1] at HRF
     obtain ⟨S1, hS1⟩ : ∃ S1, SL.take 1 = S1 := ⟨_, rfl⟩
     have hS0 : S1.length = 1 := by rw [← hS1, List.length_take]; omega
     rw [hS1] at HSO
     clear hE1 hT1 hS1 hs h6 hse hRE hRT hSE hCR HS1 HMA HGT G
     go_wp2_with (first | (go_at_call 14; refine (HSH.out _ (keep_trans fB hcur)).mono ?_; rintro _ w1 ⟨rfl, hb1⟩; replace hcur := keep_trans hcur hb1; replace x0 := q_cell (keepq hcur HQ1.out) 0; replace x1 := q_cell (keepq hcur HQ1.out) 1; replace x2 := q_cell (keepq hcur HQ1.out) 2; replace x3 := q_cell (keepq hcur HQ1.out) 3; replace xl := q_lt (keepq hcur HQ1.out); replace y0 := q_cell (keepq hcur HQ0.out) 0; replace y1 := q_cell (keepq hcur HQ0.out) 1; replace y2 := q_cell (keepq hcur HQ0.out) 2; replace y3 := q_cell (keepq hcur HQ0.out) 3; replace yl := q_lt (keepq hcur HQ0.out)) | (go_at_call 15; refine (HTK.out _ (keep_trans fB hcur)).mono ?_; rintro _ w1 ⟨rfl, hb1⟩; replace hcur := keep_trans hcur hb1; replace x0 := q_cell (keepq hcur HQ1.out) 0; replace x1 := q_cell (keepq hcur HQ1.out) 1; replace x2 := q_cell (keepq hcur HQ1.out) 2; replace x3 := q_cell (keepq hcur HQ1.out) 3; replace xl := q_lt (keepq hcur HQ1.out); replace y0 := q_cell (keepq hcur HQ0.out) 0; replace y1 := q_cell (keepq hcur HQ0.out) 1; replace y2 := q_cell (keepq hcur HQ0.out) 2; replace y3 := q_cell (keepq hcur HQ0.out) 3; replace yl := q_lt (keepq hcur HQ0.out)) | (go_at_call 16; refine (HOP.out _ (keep_trans fB hcur)).mono ?_; rintro _ w1 ⟨vo, rfl, howno, hb1⟩; obtain ⟨ao, co, rfl⟩ := owns_shape howno; clear howno; replace hcur := keep_trans hcur hb1; replace x0 := q_cell (keepq hcur HQ1.out) 0; replace x1 := q_cell (keepq hcur HQ1.out) 1; replace x2 := q_cell (keepq hcur HQ1.out) 2; replace x3 := q_cell (keepq hcur HQ1.out) 3; replace xl := q_lt (keepq hcur HQ1.out); replace y0 := q_cell (keepq hcur HQ0.out) 0; replace y1 := q_cell (keepq hcur HQ0.out) 1; replace y2 := q_cell (keepq hcur HQ0.out) 2; replace y3 := q_cell (keepq hcur HQ0.out) 3; replace yl := q_lt (keepq hcur HQ0.out)))
     refine (HRF.out _ (keep_trans fB hcur)).mono ?_
     rintro _ w1 ⟨ar, nr, cr, rfl, hT, hcr, hb1⟩
     replace hcur := keep_trans hcur hb1
     have hTl := hT.1.1
     replace x0 := q_cell (keepq hcur HQ1.out) 0
     replace x1 := q_cell (keepq hcur HQ1.out) 1
     replace x2 := q_cell (keepq hcur HQ1.out) 2
     replace x3 := q_cell (keepq hcur HQ1.out) 3
     replace xl := q_lt (keepq hcur HQ1.out)
     replace y0 := q_cell (keepq hcur HQ0.out) 0
     replace y1 := q_cell (keepq hcur HQ0.out) 1
     replace y2 := q_cell (keepq hcur HQ0.out) 2
     replace y3 := q_cell (keepq hcur HQ0.out) 3
     replace yl := q_lt (keepq hcur HQ0.out)
     rw [List.length_nil] at hTl
     subst hTl
     go_wp2_with (first | (go_at_call 15; refine (HTK.out _ (keep_trans fB hcur)).mono ?_; rintro _ w1 ⟨rfl, hb1⟩; replace hcur := keep_trans hcur hb1; replace hT := hT.mono hb1; replace x0 := q_cell (keepq hcur HQ1.out) 0; replace x1 := q_cell (keepq hcur HQ1.out) 1; replace x2 := q_cell (keepq hcur HQ1.out) 2; replace x3 := q_cell (keepq hcur HQ1.out) 3; replace xl := q_lt (keepq hcur HQ1.out); replace y0 := q_cell (keepq hcur HQ0.out) 0; replace y1 := q_cell (keepq hcur HQ0.out) 1; replace y2 := q_cell (keepq hcur HQ0.out) 2; replace y3 := q_cell (keepq hcur HQ0.out) 3; replace yl := q_lt (keepq hcur HQ0.out)) | (go_at_call 16; refine (HOP.out _ (keep_trans fB hcur)).mono ?_; rintro _ w1 ⟨vo, rfl, howno, hb1⟩; obtain ⟨ao, co, rfl⟩ := owns_shape howno; clear howno; replace hcur := keep_trans hcur hb1; replace hT := hT.mono hb1; replace x0 := q_cell (keepq hcur HQ1.out) 0; replace x1 := q_cell (keepq hcur HQ1.out) 1; replace x2 := q_cell (keepq hcur HQ1.out) 2; replace x3 := q_cell (keepq hcur HQ1.out) 3; replace xl := q_lt (keepq hcur HQ1.out); replace y0 := q_cell (keepq hcur HQ0.out) 0; replace y1 := q_cell (keepq hcur HQ0.out) 1; replace y2 := q_cell (keepq hcur HQ0.out) 2; replace y3 := q_cell (keepq hcur HQ0.out) 3; replace yl := q_lt (keepq hcur HQ0.out)))
     refine (HSO.out _ (keep_trans fB hcur)).mono ?_
     rintro _ w1 ⟨⟨vf, pre, rfl, hr, hall, _⟩, hb1⟩
     have hpl : pre.length = S1.length := by rw [← hall, List.length_map]
     obtain ⟨a9, cs, e⟩ := owns_shape hr.1
     subst e
     rw [hpl]
     replace hcur := keep_trans hcur hb1
     replace hT := hT.mono hb1
     clear hr hall hpl
     replace x0 := q_cell (keepq hcur HQ1.out) 0
     replace x1 := q_cell (keepq hcur HQ1.out) 1
     replace x2 := q_cell (keepq hcur HQ1.out) 2
     replace x3 := q_cell (keepq hcur HQ1.out) 3
     replace xl := q_lt (keepq hcur HQ1.out)
     replace y0 := q_cell (keepq hcur HQ0.out) 0
     replace y1 := q_cell (keepq hcur HQ0.out) 1
     replace y2 := q_cell (keepq hcur HQ0.out) 2
     replace y3 := q_cell (keepq hcur HQ0.out) 3
     replace yl := q_lt (keepq hcur HQ0.out)
     rw [hS0]
     go_wp2_with (first | (go_at_call 17; refine (HA.out _).mono ?_; rintro _ w1 ⟨rfl, hb1⟩; replace hcur := keep_trans hcur hb1))
     go_ret
     exact ⟨rfl, keep_trans fB hcur⟩
   ·have h6i : (6 : Int) < ((openL g).length : Int) := by omega
    by_cases h16 : (openL g).length ≤ 16
    ·have h16i : ((openL g).length : Int) ≤ 16 := by omega
     go_wp2_with (first | (go_at_call 14; refine (HSH.out _ (keep_trans fB hcur)).mono ?_; rintro _ w1 ⟨rfl, hb1⟩; replace hcur := keep_trans hcur hb1; replace x0 := q_cell (keepq hcur HQ1.out) 0; replace x1 := q_cell (keepq hcur HQ1.out) 1; replace x2 := q_cell (keepq hcur HQ1.out) 2; replace x3 := q_cell (keepq hcur HQ1.out) 3; replace xl := q_lt (keepq hcur HQ1.out); replace y0 := q_cell (keepq hcur HQ0.out) 0; replace y1 := q_cell (keepq hcur HQ0.out) 1; replace y2 := q_cell (keepq hcur HQ0.out) 2; replace y3 := q_cell (keepq hcur HQ0.out) 3; replace yl := q_lt (keepq hcur HQ0.out)) | (go_at_call 15; refine (HTK.out _ (keep_trans fB hcur)).mono ?_; rintro _ w1 ⟨rfl, hb1⟩; replace hcur := keep_trans hcur hb1; replace x0 := q_cell (keepq hcur HQ1.out) 0; replace x1 := q_cell (keepq hcur HQ1.out) 1; replace x2 := q_cell (keepq hcur HQ1.out) 2; replace x3 := q_cell (keepq hcur HQ1.out) 3; replace xl := q_lt (keepq hcur HQ1.out); replace y0 := q_cell (keepq hcur HQ0.out) 0; replace y1 := q_cell (keepq hcur HQ0.out) 1; replace y2 := q_cell (keepq hcur HQ0.out) 2; replace y3 := q_cell (keepq hcur HQ0.out) 3; replace yl := q_lt (keepq hcur HQ0.out)) | (go_at_call 16; refine (HOP.out _ (keep_trans fB hcur)).mono ?_; rintro _ w1 ⟨vo, rfl, howno, hb1⟩; obtain ⟨ao, co, rfl⟩ := owns_shape howno; clear howno; replace hcur := keep_trans hcur hb1; replace x0 := q_cell (keepq hcur HQ1.out) 0; replace x1 := q_cell (keepq hcur HQ1.out) 1; replace x2 := q_cell (keepq hcur HQ1.out) 2; replace x3 := q_cell (keepq hcur HQ1.out) 3; replace xl := q_lt (keepq hcur HQ1.out); replace y0 := q_cell (keepq hcur HQ0.out) 0; replace y1 := q_cell (keepq hcur HQ0.out) 1; replace y2 := q_cell (keepq hcur HQ0.out) 2; replace y3 := q_cell (keepq hcur HQ0.out) 3; replace yl := q_lt (keepq hcur HQ0.out)) | (go_at_call 17; refine (HA.out _).mono ?_; rintro _ w1 ⟨rfl, hb1⟩; replace hcur := keep_trans hcur hb1))
     go_ret
     exact ⟨rfl, keep_trans fB hcur⟩
    ·have h16i : (16 : Int) < ((openL g).length : Int) := by omega
     have h16j : ¬ ((openL g).length : Int) ≤ 16 := by omega
     have hse : se = 20 := by rw [hSE.out, decide_eq_true (by omega)]; rfl
     have hE1 : E1 = 20 := by rw [hRE.out, hse, if_pos (by decide)]
     have hT1 : T1 = [] := by rw [hRT.out, hE1, if_neg (by decide)]
     have HRF := Lib.hid (HRF.out (fun e => by rw [hE1] at e; cases e))
     rw [hE1, hT1] at HRF
     clear hE1 hT1 h6 hse hRE hRT hSE hCR HS1 HMA HGT G
     go_wp2_with (first | (go_at_call 14; refine (HSH.out _ (keep_trans fB hcur)).mono ?_; rintro _ w1 ⟨rfl, hb1⟩; replace hcur := keep_trans hcur hb1; replace x0 := q_cell (keepq hcur HQ1.out) 0; replace x1 := q_cell (keepq hcur HQ1.out) 1; replace x2 := q_cell (keepq hcur HQ1.out) 2; replace x3 := q_cell (keepq hcur HQ1.out) 3; replace xl := q_lt (keepq hcur HQ1.out); replace y0 := q_cell (keepq hcur HQ0.out) 0; replace y1 := q_cell (keepq hcur HQ0.out) 1; replace y2 := q_cell (keepq hcur HQ0.out) 2; replace y3 := q_cell (keepq hcur HQ0.out) 3; replace yl := q_lt (keepq hcur HQ0.out)) | (go_at_call 15; refine (HTK.out _ (keep_trans fB hcur)).mono ?_; rintro _ w1 ⟨rfl, hb1⟩; replace hcur := keep_trans hcur hb1; replace x0 := q_cell (keepq hcur HQ1.out) 0; replace x1 := q_cell (keepq hcur HQ1.out) 1; replace x2 := q_cell (keepq hcur HQ1.out) 2; replace x3 := q_cell (keepq hcur HQ1.out) 3; replace xl := q_lt (keepq hcur HQ1.out); replace y0 := q_cell (keepq hcur HQ0.out) 0; replace y1 := q_cell (keepq hcur HQ0.out) 1; replace y2 := q_cell (keepq hcur HQ0.out) 2; replace y3 := q_cell (keepq hcur HQ0.out) 3; replace yl := q_lt (keepq hcur HQ0.out)) | (go_at_call 16; refine (HOP.out _ (keep_trans fB hcur)).mono ?_; rintro _ w1 ⟨vo, rfl, howno, hb1⟩; obtain ⟨ao, co, rfl⟩ := owns_shape howno; clear howno; replace hcur := keep_trans hcur hb1; replace x0 := q_cell (keepq hcur HQ1.out) 0; replace x1 := q_cell (keepq hcur HQ1.out) 1; replace x2 := q_cell (keepq hcur HQ1.out) 2; replace x3 := q_cell (keepq hcur HQ1.out) 3; replace xl := q_lt (keepq hcur HQ1.out); replace y0 := q_cell (keepq hcur HQ0.out) 0; replace y1 := q_cell (keepq hcur HQ0.out) 1; replace y2 := q_cell (keepq hcur HQ0.out) 2; replace y3 := q_cell (keepq hcur HQ0.out) 3; replace yl := q_lt (keepq hcur HQ0.out)))
     refine (HRF.out _ (keep_trans fB hcur)).mono ?_
     rintro _ w1 ⟨ar, nr, cr, rfl, hT, hcr, hb1⟩
     replace hcur := keep_trans hcur hb1
     have hTl := hT.1.1
     replace x0 := q_cell (keepq hcur HQ1.out) 0
     replace x1 := q_cell (keepq hcur HQ1.out) 1
     replace x2 := q_cell (keepq hcur HQ1.out) 2
     replace x3 := q_cell (keepq hcur HQ1.out) 3
     replace xl := q_lt (keepq hcur HQ1.out)
     replace y0 := q_cell (keepq hcur HQ0.out) 0
     replace y1 := q_cell (keepq hcur HQ0.out) 1
     replace y2 := q_cell (keepq hcur HQ0.out) 2
     replace y3 := q_cell (keepq hcur HQ0.out) 3
     replace yl := q_lt (keepq hcur HQ0.out)
     rw [List.length_nil] at hTl
     subst hTl
     go_wp2_with (first | (go_at_call 15; refine (HTK.out _ (keep_trans fB hcur)).mono ?_; rintro _ w1 ⟨rfl, hb1⟩; replace hcur := keep_trans hcur hb1; replace x0 := q_cell (keepq hcur HQ1.out) 0; replace x1 := q_cell (keepq hcur HQ1.out) 1; replace x2 := q_cell (keepq hcur HQ1.out) 2; replace x3 := q_cell (keepq hcur HQ1.out) 3; replace xl := q_lt (keepq hcur HQ1.out); replace y0 := q_cell (keepq hcur HQ0.out) 0; replace y1 := q_cell (keepq hcur HQ0.out) 1; replace y2 := q_cell (keepq hcur HQ0.out) 2; replace y3 := q_cell (keepq hcur HQ0.out) 3; replace yl := q_lt (keepq hcur HQ0.out)) | (go_at_call 16; refine (HOP.out _ (keep_trans fB hcur)).mono ?_; rintro _ w1 ⟨vo, rfl, howno, hb1⟩; obtain ⟨ao, co, rfl⟩ := owns_shape howno; clear howno; replace hcur := keep_trans hcur hb1; replace x0 := q_cell (keepq hcur HQ1.out) 0; replace x1 := q_cell (keepq hcur HQ1.out) 1; replace x2 := q_cell (keepq hcur HQ1.out) 2; replace x3 := q_cell (keepq hcur HQ1.out) 3; replace xl := q_lt (keepq hcur HQ1.out); replace y0 := q_cell (keepq hcur HQ0.out) 0; replace y1 := q_cell (keepq hcur HQ0.out) 1; replace y2 := q_cell (keepq hcur HQ0.out) 2; replace y3 := q_cell (keepq hcur HQ0.out) 3; replace yl := q_lt (keepq hcur HQ0.out)) | (go_at_call 17; refine (HA.out _).mono ?_; rintro _ w1 ⟨rfl, hb1⟩; replace hcur := keep_trans hcur hb1))
     go_ret
     exact ⟨rfl, keep_trans fB hcur⟩
  ·have hti : (te == 0) = false := by simpa using ht
   have htn : (te != 0) = true := by simpa using ht
   have hse : se = te := by rw [hSE.out, if_pos htn]
   have hE1 : E1 = te := by rw [hRE.out, hse, if_pos htn]
   have hT1 : T1 = [] := by rw [hRT.out, hE1, if_neg ht]
   have HRF := Lib.hid (HRF.out (fun e => by rw [hE1] at e; exact absurd e ht))
   rw [hE1, hT1] at HRF
   clear hE1 hT1 hse hRE hRT hSE hCR HS1 HMA HGT
   go_wp2_with (first | (go_at_call 14; refine (HSH.out _ (keep_trans fB hcur)).mono ?_; rintro _ w1 ⟨rfl, hb1⟩; replace hcur := keep_trans hcur hb1; replace x0 := q_cell (keepq hcur HQ1.out) 0; replace x1 := q_cell (keepq hcur HQ1.out) 1; replace x2 := q_cell (keepq hcur HQ1.out) 2; replace x3 := q_cell (keepq hcur HQ1.out) 3; replace xl := q_lt (keepq hcur HQ1.out); replace y0 := q_cell (keepq hcur HQ0.out) 0; replace y1 := q_cell (keepq hcur HQ0.out) 1; replace y2 := q_cell (keepq hcur HQ0.out) 2; replace y3 := q_cell (keepq hcur HQ0.out) 3; replace yl := q_lt (keepq hcur HQ0.out)) | (go_at_call 15; refine (HTK.out _ (keep_trans fB hcur)).mono ?_; rintro _ w1 ⟨rfl, hb1⟩; replace hcur := keep_trans hcur hb1; replace x0 := q_cell (keepq hcur HQ1.out) 0; replace x1 := q_cell (keepq hcur HQ1.out) 1; replace x2 := q_cell (keepq hcur HQ1.out) 2; replace x3 := q_cell (keepq hcur HQ1.out) 3; replace xl := q_lt (keepq hcur HQ1.out); replace y0 := q_cell (keepq hcur HQ0.out) 0; replace y1 := q_cell (keepq hcur HQ0.out) 1; replace y2 := q_cell (keepq hcur HQ0.out) 2; replace y3 := q_cell (keepq hcur HQ0.out) 3; replace yl := q_lt (keepq hcur HQ0.out)) | (go_at_call 16; refine (HOP.out _ (keep_trans fB hcur)).mono ?_; rintro _ w1 ⟨vo, rfl, howno, hb1⟩; obtain ⟨ao, co, rfl⟩ := owns_shape howno; clear howno; replace hcur := keep_trans hcur hb1; replace x0 := q_cell (keepq hcur HQ1.out) 0; replace x1 := q_cell (keepq hcur HQ1.out) 1; replace x2 := q_cell (keepq hcur HQ1.out) 2; replace x3 := q_cell (keepq hcur HQ1.out) 3; replace xl := q_lt (keepq hcur HQ1.out); replace y0 := q_cell (keepq hcur HQ0.out) 0; replace y1 := q_cell (keepq hcur HQ0.out) 1; replace y2 := q_cell (keepq hcur HQ0.out) 2; replace y3 := q_cell (keepq hcur HQ0.out) 3; replace yl := q_lt (keepq hcur HQ0.out)))
   refine (HRF.out _ (keep_trans fB hcur)).mono ?_
   rintro _ w1 ⟨ar, nr, cr, rfl, hT, hcr, hb1⟩
   replace hcur := keep_trans hcur hb1
   have hTl := hT.1.1
   replace x0 := q_cell (keepq hcur HQ1.out) 0
   replace x1 := q_cell (keepq hcur HQ1.out) 1
   replace x2 := q_cell (keepq hcur HQ1.out) 2
   replace x3 := q_cell (keepq hcur HQ1.out) 3
   replace xl := q_lt (keepq hcur HQ1.out)
   replace y0 := q_cell (keepq hcur HQ0.out) 0
   replace y1 := q_cell (keepq hcur HQ0.out) 1
   replace y2 := q_cell (keepq hcur HQ0.out) 2
   replace y3 := q_cell (keepq hcur HQ0.out) 3
   replace yl := q_lt (keepq hcur HQ0.out)
   rw [List.length_nil] at hTl
   subst hTl
   go_wp2_with (first | (go_at_call 15; refine (HTK.out _ (keep_trans fB hcur)).mono ?_; rintro _ w1 ⟨rfl, hb1⟩; replace hcur := keep_trans hcur hb1; replace x0 := q_cell (keepq hcur HQ1.out) 0; replace x1 := q_cell (keepq hcur HQ1.out) 1; replace x2 := q_cell (keepq hcur HQ1.out) 2; replace x3 := q_cell (keepq hcur HQ1.out) 3; replace xl := q_lt (keepq hcur HQ1.out); replace y0 := q_cell (keepq hcur HQ0.out) 0; replace y1 := q_cell (keepq hcur HQ0.out) 1; replace y2 := q_cell (keepq hcur HQ0.out) 2; replace y3 := q_cell (keepq hcur HQ0.out) 3; replace yl := q_lt (keepq hcur HQ0.out)) | (go_at_call 16; refine (HOP.out _ (keep_trans fB hcur)).mono ?_; rintro _ w1 ⟨vo, rfl, howno, hb1⟩; obtain ⟨ao, co, rfl⟩ := owns_shape howno; clear howno; replace hcur := keep_trans hcur hb1; replace x0 := q_cell (keepq hcur HQ1.out) 0; replace x1 := q_cell (keepq hcur HQ1.out) 1; replace x2 := q_cell (keepq hcur HQ1.out) 2; replace x3 := q_cell (keepq hcur HQ1.out) 3; replace xl := q_lt (keepq hcur HQ1.out); replace y0 := q_cell (keepq hcur HQ0.out) 0; replace y1 := q_cell (keepq hcur HQ0.out) 1; replace y2 := q_cell (keepq hcur HQ0.out) 2; replace y3 := q_cell (keepq hcur HQ0.out) 3; replace yl := q_lt (keepq hcur HQ0.out)) | (go_at_call 17; refine (HA.out _).mono ?_; rintro _ w1 ⟨rfl, hb1⟩; replace hcur := keep_trans hcur hb1))
   go_ret
   exact ⟨rfl, keep_trans fB hcur⟩
end
end Go.Proofs.YtcblpobiefmjmaaGreat
