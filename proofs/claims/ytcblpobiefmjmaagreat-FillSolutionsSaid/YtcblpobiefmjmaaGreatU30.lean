/- Texts Q2 to Q2 of this proof, in one file. -/
import Derived.Test.YtcblpobiefmjmaaGreatU20
import Derived.Test.YtcblpobiefmjmaaGreatU29
namespace Go.Proofs.YtcblpobiefmjmaaGreat
open Go Go.RowKit
attribute [local go_sem] over_cell
attribute [local go_sem] Oper.semAt_some
theorem first6_b (a : Option Addr) (n c : Nat) (xs : List Int) (w : World) (h : IC w a n xs) :
    Calls Tryz.prog 31 #[.slice a n c] w fun e w' => e = .returned (.int .i64 (firstL xs)) ∧ Below w.heap.size w w' :=
  (first6_c a n c xs w h).mono fun _ _ he => ⟨he.1, he.2 ▸ Below.refl _ _⟩
set_option maxRecDepth 100000 in
set_option maxHeartbeats 16000000 in
theorem fsols_c (a : Option Addr) (n c : Nat) (ls : List (List Int)) (cells sum : Int) (a' : Option Addr) (n' c' : Nat) (g : List Int) (most : Int) (w : World) (h : RC w a n ls) (hcap : n ≤ c) (h' : IC w a' n' g) (hcap' : n' ≤ c') :
    Calls Tryz.prog 6 #[.agg #[.int .i64 cells, .slice a n c, .int .i64 sum, .slice a' n' c'], .int .i64 most] w fun e w' => e = .returned (.bool true) ∧ Below w.heap.size w w' := by
  have HA := Go.Lib.hid awake_c
  have HSH := Go.Lib.hid (fun w1 (hb : Below w.heap.size w w1) => short6_c a n c ls cells sum a' n' c' g 40 w1 (h.mono hb) (h'.mono hb))
  have HTK := Go.Lib.hid (fun w1 (hb : Below w.heap.size w w1) => rtask_c a n c ls cells sum a' n' c' g w1 (h.mono hb) hcap (h'.mono hb) hcap')
  have HOP := Go.Lib.hid (fun w1 (hb : Below w.heap.size w w1) => ropen_c (.slice a n c) cells sum a' n' c' g w1 (h'.mono hb))
  have HCO := Go.Lib.hid (fun w1 (hb : Below w.heap.size w w1) => comp_c a n c ls cells sum a' n' c' g most w1 (h.mono hb) hcap (h'.mono hb) hcap')
  have HCN := Go.Lib.hid (fun w1 (hb : Below w.heap.size w w1) => count_c a n c ls cells sum a' n' c' g w1 (h.mono hb) hcap (h'.mono hb) hcap')
  have HSO := Go.Lib.hid (fun (G : GoodTask cells ls sum g) (h7 : (openL g).length ≤ 7) w1 (hb : Below w.heap.size w w1) => rsols_c G a n c a' n' c' 6000 w1 (h.mono hb) (h'.mono hb) h7 (by decide) (by decide))
  have HGT : Hid (taskErr cells ls sum g = 0 → GoodTask cells ls sum g) := goodTask
  have HGL : Hid (taskErr cells ls sum g = 0 → g.length ≤ 256) := fun e => by have := (goodTask e).len; have := (goodTask e).cells2; omega
  have hCE : Hid (compE cells ls sum g most = firstL [taskErr cells ls sum g, whenV (decide (most < 1) || decide (256 < most)) 3, smallErr cells ls sum g]) := rfl
  have hCL : Hid (compL cells ls sum g most = if (compE cells ls sum g most != 0) = true then [] else (solsL ls sum g []).take most.toNat) := rfl
  have hNE : Hid (countE cells ls sum g = if (smallErr cells ls sum g != 0) = true then smallErr cells ls sum g else if 999999999 < (solsL ls sum g []).length then 5 else 0) := rfl
  have hNN : Hid (countN cells ls sum g = if (smallErr cells ls sum g != 0) = true then 0 else if 999999999 < (solsL ls sum g []).length then 0 else ((solsL ls sum g []).length : Int)) := rfl
  have hSE : Hid (smallErr cells ls sum g = if (taskErr cells ls sum g != 0) = true then taskErr cells ls sum g else whenV (decide (((openL g).length : Int) > 16)) 20) := rfl
  have HS6 : Hid (∀ (G : GoodTask cells ls sum g), (openL g).length ≤ 7 → solsR ls sum g 6000 = solsL ls sum g [] ∧ (solsL ls sum g []).length ≤ 5040) := fun G h7 => by
    have h1 := solsR_eq G 6000
    have h2 := sols_count G h7
    exact ⟨by rw [show (6000 : Int) = ((6000 : Nat) : Int) from rfl, h1, List.take_of_length_le (by omega)], h2⟩
  have HSL : Hid (∀ l, l ∈ solsL ls sum g [] → l.length ≤ g.length) := fun l hl => by rw [sols_len hl]; exact Nat.le_refl _
  clear h h'
  generalize compE cells ls sum g most = E1 at HCO hCE hCL
  generalize compL cells ls sum g most = L1 at HCO hCL
  generalize countE cells ls sum g = E2 at HCN hNE
  generalize countN cells ls sum g = N2 at HCN hNN
  generalize smallErr cells ls sum g = se at hCE hNE hNN hSE
  generalize taskErr cells ls sum g = te at HTK HGT HGL hCE hSE
  generalize short6B 40 ls g = sb at HSH
  generalize hsl9 : solsL ls sum g [] = SL at hCL hNE hNN HS6 HSL
  clear hsl9
  go_enter Tryz.func6, Tryz.ntmps6
  go_upto_region 2 with fail
  have fsz : ((w.alloc (.cells #[.int .i64 cells, .slice a n c, .int .i64 sum, .slice a' n' c'] 27)).alloc (.cells #[.int .i64 cells, .slice a n c, .int .i64 sum, .slice a' n' c'] 28)).heap.size = w.heap.size + 2 := by simp only [World.size_alloc] <;> omega
  have fB : Below w.heap.size w ((w.alloc (.cells #[.int .i64 cells, .slice a n c, .int .i64 sum, .slice a' n' c'] 27)).alloc (.cells #[.int .i64 cells, .slice a n c, .int .i64 sum, .slice a' n' c'] 28)) := ((Below.refl _ _).alloc (Nat.le_refl _) _).alloc (by simp only [World.size_alloc]; omega) _
  have fq0 : ((w.alloc (.cells #[.int .i64 cells, .slice a n c, .int .i64 sum, .slice a' n' c'] 27)).alloc (.cells #[.int .i64 cells, .slice a n c, .int .i64 sum, .slice a' n' c'] 28)).heap[w.heap.size]? = some (.cells #[.int .i64 cells, .slice a n c, .int .i64 sum, .slice a' n' c'] 27 (0, 0)) := by have h := World.alloc_heap_new w (.cells #[.int .i64 cells, .slice a n c, .int .i64 sum, .slice a' n' c'] 27); exact (Below.heap_alloc _ _ _ (by simp only [World.size_alloc]; omega)).trans (h)
  have fq1 : ((w.alloc (.cells #[.int .i64 cells, .slice a n c, .int .i64 sum, .slice a' n' c'] 27)).alloc (.cells #[.int .i64 cells, .slice a n c, .int .i64 sum, .slice a' n' c'] 28)).heap[w.heap.size + 1]? = some (.cells #[.int .i64 cells, .slice a n c, .int .i64 sum, .slice a' n' c'] 28 (0, 0)) := by have h := World.alloc_heap_new (w.alloc (.cells #[.int .i64 cells, .slice a n c, .int .i64 sum, .slice a' n' c'] 27)) (.cells #[.int .i64 cells, .slice a n c, .int .i64 sum, .slice a' n' c'] 28); simp only [World.size_alloc] at h; exact h
  generalize ((w.alloc (.cells #[.int .i64 cells, .slice a n c, .int .i64 sum, .slice a' n' c'] 27)).alloc (.cells #[.int .i64 cells, .slice a n c, .int .i64 sum, .slice a' n' c'] 28)) = W0 at fsz fB fq0 fq1 ⊢
  have HQ0 := Go.Lib.hid fq0
  have HQ1 := Go.Lib.hid fq1
  have x0 : W0.cell? ⟨w.heap.size + 1, 0, none⟩ = some (.int .i64 cells) := q_cell fq1 0
  have x1 : W0.cell? ⟨w.heap.size + 1, 1, none⟩ = some (.slice a n c) := q_cell fq1 1
  have x2 : W0.cell? ⟨w.heap.size + 1, 2, none⟩ = some (.int .i64 sum) := q_cell fq1 2
  have x3 : W0.cell? ⟨w.heap.size + 1, 3, none⟩ = some (.slice a' n' c') := q_cell fq1 3
  have xl := q_lt fq1
  have y0 : W0.cell? ⟨w.heap.size, 0, none⟩ = some (.int .i64 cells) := q_cell fq0 0
  have y1 : W0.cell? ⟨w.heap.size, 1, none⟩ = some (.slice a n c) := q_cell fq0 1
  have y2 : W0.cell? ⟨w.heap.size, 2, none⟩ = some (.int .i64 sum) := q_cell fq0 2
  have y3 : W0.cell? ⟨w.heap.size, 3, none⟩ = some (.slice a' n' c') := q_cell fq0 3
  have yl := q_lt fq0
  have hcur : Below W0.heap.size W0 W0 := Below.refl _ _
  clear fq0 fq1 fsz
  cases sb with
  | false =>
    go_wp2_with (first | (go_at_call 14; refine (HSH.out _ (keep_trans fB hcur)).mono ?_; rintro _ w1 ⟨rfl, hb1⟩; replace hcur := keep_trans hcur hb1; replace x0 := q_cell (keepq hcur HQ1.out) 0; replace x1 := q_cell (keepq hcur HQ1.out) 1; replace x2 := q_cell (keepq hcur HQ1.out) 2; replace x3 := q_cell (keepq hcur HQ1.out) 3; replace xl := q_lt (keepq hcur HQ1.out); replace y0 := q_cell (keepq hcur HQ0.out) 0; replace y1 := q_cell (keepq hcur HQ0.out) 1; replace y2 := q_cell (keepq hcur HQ0.out) 2; replace y3 := q_cell (keepq hcur HQ0.out) 3; replace yl := q_lt (keepq hcur HQ0.out)) | (go_at_call 17; refine (HA.out _).mono ?_; rintro _ w1 ⟨rfl, hb1⟩; replace hcur := keep_trans hcur hb1))
    go_ret
    exact ⟨rfl, keep_trans fB hcur⟩
  | true =>
    by_cases ht : te = 0
    · subst ht
      have G := HGT.out rfl
      have hg256 := HGL.out rfl
      rw [if_neg (by decide)] at hSE
      by_cases h7 : (openL g).length ≤ 7
      · have h7i : ¬ (7 : Int) < ((openL g).length : Int) := by omega
        have h16i : ¬ (16 : Int) < ((openL g).length : Int) := by omega
        have hse : se = 0 := by rw [hSE.out, decide_eq_false (by omega)]; rfl
        obtain ⟨hs1, hs2⟩ := HS6.out G h7
        have HSO := Go.Lib.hid (HSO.out G h7)
        rw [hs1] at HSO
        have HSL : Hid (∀ l, l ∈ SL → l.length ≤ 17592186044416) := fun l hl => by have := HSL.out l hl; omega
        have hE2 : E2 = 0 := by rw [hNE.out, hse, if_neg (by decide), if_neg (by omega)]
        have hN2 : N2 = (SL.length : Int) := by rw [hNN.out, hse, if_neg (by decide), if_neg (by omega)]
        rw [hE2, hN2] at HCN
        have F2 : firstL [0, 0] = 0 := rfl
        clear HGT HGL HS6 hNE hNN hE2 hN2 hs1
        by_cases m1 : most < 1
        · have hE1 : E1 = 3 := by rw [hCE.out, hse, decide_eq_true m1]; rfl
          rw [hE1] at HCO hCL
          have hL1 : L1 = [] := by rw [hCL.out]; rfl
          rw [hL1] at HCO
          have F1 : firstL [3, 0] = 3 := rfl
          clear hCE hCL hE1 hL1 hSE hse
          go_wp2_with (first | (go_at_call 14; refine (HSH.out _ (keep_trans fB hcur)).mono ?_; rintro _ w1 ⟨rfl, hb1⟩; replace hcur := keep_trans hcur hb1; replace x0 := q_cell (keepq hcur HQ1.out) 0; replace x1 := q_cell (keepq hcur HQ1.out) 1; replace x2 := q_cell (keepq hcur HQ1.out) 2; replace x3 := q_cell (keepq hcur HQ1.out) 3; replace xl := q_lt (keepq hcur HQ1.out); replace y0 := q_cell (keepq hcur HQ0.out) 0; replace y1 := q_cell (keepq hcur HQ0.out) 1; replace y2 := q_cell (keepq hcur HQ0.out) 2; replace y3 := q_cell (keepq hcur HQ0.out) 3; replace yl := q_lt (keepq hcur HQ0.out)) | (go_at_call 15; refine (HTK.out _ (keep_trans fB hcur)).mono ?_; rintro _ w1 ⟨rfl, hb1⟩; replace hcur := keep_trans hcur hb1; replace x0 := q_cell (keepq hcur HQ1.out) 0; replace x1 := q_cell (keepq hcur HQ1.out) 1; replace x2 := q_cell (keepq hcur HQ1.out) 2; replace x3 := q_cell (keepq hcur HQ1.out) 3; replace xl := q_lt (keepq hcur HQ1.out); replace y0 := q_cell (keepq hcur HQ0.out) 0; replace y1 := q_cell (keepq hcur HQ0.out) 1; replace y2 := q_cell (keepq hcur HQ0.out) 2; replace y3 := q_cell (keepq hcur HQ0.out) 3; replace yl := q_lt (keepq hcur HQ0.out)) | (go_at_call 16; refine (HOP.out _ (keep_trans fB hcur)).mono ?_; rintro _ w1 ⟨vo, rfl, howno, hb1⟩; obtain ⟨ao, co, rfl⟩ := owns_shape howno; clear howno; replace hcur := keep_trans hcur hb1; replace x0 := q_cell (keepq hcur HQ1.out) 0; replace x1 := q_cell (keepq hcur HQ1.out) 1; replace x2 := q_cell (keepq hcur HQ1.out) 2; replace x3 := q_cell (keepq hcur HQ1.out) 3; replace xl := q_lt (keepq hcur HQ1.out); replace y0 := q_cell (keepq hcur HQ0.out) 0; replace y1 := q_cell (keepq hcur HQ0.out) 1; replace y2 := q_cell (keepq hcur HQ0.out) 2; replace y3 := q_cell (keepq hcur HQ0.out) 3; replace yl := q_lt (keepq hcur HQ0.out)))
          refine (HCO.out _ (keep_trans fB hcur)).mono ?_
          rintro _ w1 ⟨al, nl, cl, rfl, hL, hcl, hb1⟩
          replace hcur := keep_trans hcur hb1
          have hLl := hL.len
          have hLs := hL.small
          replace x0 := q_cell (keepq hcur HQ1.out) 0
          replace x1 := q_cell (keepq hcur HQ1.out) 1
          replace x2 := q_cell (keepq hcur HQ1.out) 2
          replace x3 := q_cell (keepq hcur HQ1.out) 3
          replace xl := q_lt (keepq hcur HQ1.out)
          replace y0 := q_cell (keepq hcur HQ0.out) 0
          replace y1 := q_cell (keepq hcur HQ0.out) 1
          replace y2 := q_cell (keepq hcur HQ0.out) 2
          replace y3 := q_cell (keepq hcur HQ0.out) 3
          replace yl := q_lt (keepq hcur HQ0.out)
          rw [List.length_nil] at hLl
          subst hLl
          go_wp2_with fail
          refine (HCN.out _ (keep_trans fB hcur)).mono ?_
          rintro _ w1 ⟨rfl, hb1⟩
          replace hcur := keep_trans hcur hb1
          replace hL := hL.mono hb1
          replace x0 := q_cell (keepq hcur HQ1.out) 0
          replace x1 := q_cell (keepq hcur HQ1.out) 1
          replace x2 := q_cell (keepq hcur HQ1.out) 2
          replace x3 := q_cell (keepq hcur HQ1.out) 3
          replace xl := q_lt (keepq hcur HQ1.out)
          replace y0 := q_cell (keepq hcur HQ0.out) 0
          replace y1 := q_cell (keepq hcur HQ0.out) 1
          replace y2 := q_cell (keepq hcur HQ0.out) 2
          replace y3 := q_cell (keepq hcur HQ0.out) 3
          replace yl := q_lt (keepq hcur HQ0.out)
          go_wp2_with (first | (go_at_call 15; refine (HTK.out _ (keep_trans fB hcur)).mono ?_; rintro _ w1 ⟨rfl, hb1⟩; replace hcur := keep_trans hcur hb1; replace hL := hL.mono hb1; replace x0 := q_cell (keepq hcur HQ1.out) 0; replace x1 := q_cell (keepq hcur HQ1.out) 1; replace x2 := q_cell (keepq hcur HQ1.out) 2; replace x3 := q_cell (keepq hcur HQ1.out) 3; replace xl := q_lt (keepq hcur HQ1.out); replace y0 := q_cell (keepq hcur HQ0.out) 0; replace y1 := q_cell (keepq hcur HQ0.out) 1; replace y2 := q_cell (keepq hcur HQ0.out) 2; replace y3 := q_cell (keepq hcur HQ0.out) 3; replace yl := q_lt (keepq hcur HQ0.out)) | (go_at_call 16; refine (HOP.out _ (keep_trans fB hcur)).mono ?_; rintro _ w1 ⟨vo, rfl, howno, hb1⟩; obtain ⟨ao, co, rfl⟩ := owns_shape howno; clear howno; replace hcur := keep_trans hcur hb1; replace hL := hL.mono hb1; replace x0 := q_cell (keepq hcur HQ1.out) 0; replace x1 := q_cell (keepq hcur HQ1.out) 1; replace x2 := q_cell (keepq hcur HQ1.out) 2; replace x3 := q_cell (keepq hcur HQ1.out) 3; replace xl := q_lt (keepq hcur HQ1.out); replace y0 := q_cell (keepq hcur HQ0.out) 0; replace y1 := q_cell (keepq hcur HQ0.out) 1; replace y2 := q_cell (keepq hcur HQ0.out) 2; replace y3 := q_cell (keepq hcur HQ0.out) 3; replace yl := q_lt (keepq hcur HQ0.out)) | (go_at_call 31; refine (first6_b _ _ _ _ _ (IC.new2 _ _ _ _)).mono ?_; rintro _ w1 ⟨rfl, hb1⟩; (first | rw [F1] | rw [F2]); replace hcur := keep_trans (keep_alloc hcur _) hb1; replace hL := hL.mono (keep_trans (keep_alloc (Below.refl _ _) _) hb1); replace x0 := q_cell (keepq hcur HQ1.out) 0; replace x1 := q_cell (keepq hcur HQ1.out) 1; replace x2 := q_cell (keepq hcur HQ1.out) 2; replace x3 := q_cell (keepq hcur HQ1.out) 3; replace xl := q_lt (keepq hcur HQ1.out); replace y0 := q_cell (keepq hcur HQ0.out) 0; replace y1 := q_cell (keepq hcur HQ0.out) 1; replace y2 := q_cell (keepq hcur HQ0.out) 2; replace y3 := q_cell (keepq hcur HQ0.out) 3; replace yl := q_lt (keepq hcur HQ0.out)))
          refine (HSO.out _ (keep_trans fB hcur)).mono ?_
          rintro _ w1 ⟨⟨vf, pre, rfl, hr, hall, _⟩, hb1⟩
          have hpl : pre.length = SL.length := by rw [← hall, List.length_map]
          obtain ⟨a9, cs, e, hrc, hcs⟩ := hr.rc (by omega) (hr.short hall HSL.out)
          subst e
          rw [hall] at hrc
          rw [hpl] at hrc hcs ⊢
          replace hcur := keep_trans hcur hb1
          replace hL := hL.mono hb1
          clear hr hall hpl
          go_wp2_with (first | (go_at_call 17; refine (HA.out _).mono ?_; rintro _ w1 ⟨rfl, hb1⟩; replace hcur := keep_trans hcur hb1))
          go_ret
          exact ⟨rfl, keep_trans fB hcur⟩
        · by_cases m2 : 256 < most
          · have hE1 : E1 = 3 := by rw [hCE.out, hse, decide_eq_true m2, Bool.or_true]; rfl
            rw [hE1] at HCO hCL
            have hL1 : L1 = [] := by rw [hCL.out]; rfl
            rw [hL1] at HCO
            have F1 : firstL [3, 0] = 3 := rfl
            clear hCE hCL hE1 hL1 hSE hse
            go_wp2_with (first | (go_at_call 14; refine (HSH.out _ (keep_trans fB hcur)).mono ?_; rintro _ w1 ⟨rfl, hb1⟩; replace hcur := keep_trans hcur hb1; replace x0 := q_cell (keepq hcur HQ1.out) 0; replace x1 := q_cell (keepq hcur HQ1.out) 1; replace x2 := q_cell (keepq hcur HQ1.out) 2; replace x3 := q_cell (keepq hcur HQ1.out) 3; replace xl := q_lt (keepq hcur HQ1.out); replace y0 := q_cell (keepq hcur HQ0.out) 0; replace y1 := q_cell (keepq hcur HQ0.out) 1; replace y2 := q_cell (keepq hcur HQ0.out) 2; replace y3 := q_cell (keepq hcur HQ0.out) 3; replace yl := q_lt (keepq hcur HQ0.out)) | (go_at_call 15; refine (HTK.out _ (keep_trans fB hcur)).mono ?_; rintro _ w1 ⟨rfl, hb1⟩; replace hcur := keep_trans hcur hb1; replace x0 := q_cell (keepq hcur HQ1.out) 0; replace x1 := q_cell (keepq hcur HQ1.out) 1; replace x2 := q_cell (keepq hcur HQ1.out) 2; replace x3 := q_cell (keepq hcur HQ1.out) 3; replace xl := q_lt (keepq hcur HQ1.out); replace y0 := q_cell (keepq hcur HQ0.out) 0; replace y1 := q_cell (keepq hcur HQ0.out) 1; replace y2 := q_cell (keepq hcur HQ0.out) 2; replace y3 := q_cell (keepq hcur HQ0.out) 3; replace yl := q_lt (keepq hcur HQ0.out)) | (go_at_call 16; refine (HOP.out _ (keep_trans fB hcur)).mono ?_; rintro _ w1 ⟨vo, rfl, howno, hb1⟩; obtain ⟨ao, co, rfl⟩ := owns_shape howno; clear howno; replace hcur := keep_trans hcur hb1; replace x0 := q_cell (keepq hcur HQ1.out) 0; replace x1 := q_cell (keepq hcur HQ1.out) 1; replace x2 := q_cell (keepq hcur HQ1.out) 2; replace x3 := q_cell (keepq hcur HQ1.out) 3; replace xl := q_lt (keepq hcur HQ1.out); replace y0 := q_cell (keepq hcur HQ0.out) 0; replace y1 := q_cell (keepq hcur HQ0.out) 1; replace y2 := q_cell (keepq hcur HQ0.out) 2; replace y3 := q_cell (keepq hcur HQ0.out) 3; replace yl := q_lt (keepq hcur HQ0.out)))
            refine (HCO.out _ (keep_trans fB hcur)).mono ?_
            rintro _ w1 ⟨al, nl, cl, rfl, hL, hcl, hb1⟩
            replace hcur := keep_trans hcur hb1
            have hLl := hL.len
            have hLs := hL.small
            replace x0 := q_cell (keepq hcur HQ1.out) 0
            replace x1 := q_cell (keepq hcur HQ1.out) 1
            replace x2 := q_cell (keepq hcur HQ1.out) 2
            replace x3 := q_cell (keepq hcur HQ1.out) 3
            replace xl := q_lt (keepq hcur HQ1.out)
            replace y0 := q_cell (keepq hcur HQ0.out) 0
            replace y1 := q_cell (keepq hcur HQ0.out) 1
            replace y2 := q_cell (keepq hcur HQ0.out) 2
            replace y3 := q_cell (keepq hcur HQ0.out) 3
            replace yl := q_lt (keepq hcur HQ0.out)
            rw [List.length_nil] at hLl
            subst hLl
            go_wp2_with fail
            refine (HCN.out _ (keep_trans fB hcur)).mono ?_
            rintro _ w1 ⟨rfl, hb1⟩
            replace hcur := keep_trans hcur hb1
            replace hL := hL.mono hb1
            replace x0 := q_cell (keepq hcur HQ1.out) 0
            replace x1 := q_cell (keepq hcur HQ1.out) 1
            replace x2 := q_cell (keepq hcur HQ1.out) 2
            replace x3 := q_cell (keepq hcur HQ1.out) 3
            replace xl := q_lt (keepq hcur HQ1.out)
            replace y0 := q_cell (keepq hcur HQ0.out) 0
            replace y1 := q_cell (keepq hcur HQ0.out) 1
            replace y2 := q_cell (keepq hcur HQ0.out) 2
            replace y3 := q_cell (keepq hcur HQ0.out) 3
            replace yl := q_lt (keepq hcur HQ0.out)
            go_wp2_with (first | (go_at_call 15; refine (HTK.out _ (keep_trans fB hcur)).mono ?_; rintro _ w1 ⟨rfl, hb1⟩; replace hcur := keep_trans hcur hb1; replace hL := hL.mono hb1; replace x0 := q_cell (keepq hcur HQ1.out) 0; replace x1 := q_cell (keepq hcur HQ1.out) 1; replace x2 := q_cell (keepq hcur HQ1.out) 2; replace x3 := q_cell (keepq hcur HQ1.out) 3; replace xl := q_lt (keepq hcur HQ1.out); replace y0 := q_cell (keepq hcur HQ0.out) 0; replace y1 := q_cell (keepq hcur HQ0.out) 1; replace y2 := q_cell (keepq hcur HQ0.out) 2; replace y3 := q_cell (keepq hcur HQ0.out) 3; replace yl := q_lt (keepq hcur HQ0.out)) | (go_at_call 16; refine (HOP.out _ (keep_trans fB hcur)).mono ?_; rintro _ w1 ⟨vo, rfl, howno, hb1⟩; obtain ⟨ao, co, rfl⟩ := owns_shape howno; clear howno; replace hcur := keep_trans hcur hb1; replace hL := hL.mono hb1; replace x0 := q_cell (keepq hcur HQ1.out) 0; replace x1 := q_cell (keepq hcur HQ1.out) 1; replace x2 := q_cell (keepq hcur HQ1.out) 2; replace x3 := q_cell (keepq hcur HQ1.out) 3; replace xl := q_lt (keepq hcur HQ1.out); replace y0 := q_cell (keepq hcur HQ0.out) 0; replace y1 := q_cell (keepq hcur HQ0.out) 1; replace y2 := q_cell (keepq hcur HQ0.out) 2; replace y3 := q_cell (keepq hcur HQ0.out) 3; replace yl := q_lt (keepq hcur HQ0.out)) | (go_at_call 31; refine (first6_b _ _ _ _ _ (IC.new2 _ _ _ _)).mono ?_; rintro _ w1 ⟨rfl, hb1⟩; (first | rw [F1] | rw [F2]); replace hcur := keep_trans (keep_alloc hcur _) hb1; replace hL := hL.mono (keep_trans (keep_alloc (Below.refl _ _) _) hb1); replace x0 := q_cell (keepq hcur HQ1.out) 0; replace x1 := q_cell (keepq hcur HQ1.out) 1; replace x2 := q_cell (keepq hcur HQ1.out) 2; replace x3 := q_cell (keepq hcur HQ1.out) 3; replace xl := q_lt (keepq hcur HQ1.out); replace y0 := q_cell (keepq hcur HQ0.out) 0; replace y1 := q_cell (keepq hcur HQ0.out) 1; replace y2 := q_cell (keepq hcur HQ0.out) 2; replace y3 := q_cell (keepq hcur HQ0.out) 3; replace yl := q_lt (keepq hcur HQ0.out)))
            refine (HSO.out _ (keep_trans fB hcur)).mono ?_
            rintro _ w1 ⟨⟨vf, pre, rfl, hr, hall, _⟩, hb1⟩
            have hpl : pre.length = SL.length := by rw [← hall, List.length_map]
            obtain ⟨a9, cs, e, hrc, hcs⟩ := hr.rc (by omega) (hr.short hall HSL.out)
            subst e
            rw [hall] at hrc
            rw [hpl] at hrc hcs ⊢
            replace hcur := keep_trans hcur hb1
            replace hL := hL.mono hb1
            clear hr hall hpl
            go_wp2_with (first | (go_at_call 17; refine (HA.out _).mono ?_; rintro _ w1 ⟨rfl, hb1⟩; replace hcur := keep_trans hcur hb1))
            go_ret
            exact ⟨rfl, keep_trans fB hcur⟩
          · have hE1 : E1 = 0 := by rw [hCE.out, hse, decide_eq_false m1, decide_eq_false m2]; rfl
            rw [hE1] at HCO hCL
            have hL1 : L1 = SL.take most.toNat := by rw [hCL.out]; rfl
            rw [hL1] at HCO
            have F1 : firstL [0, 0] = 0 := rfl
            clear hCE hCL hE1 hL1 hSE hse
            go_wp2_with (first | (go_at_call 14; refine (HSH.out _ (keep_trans fB hcur)).mono ?_; rintro _ w1 ⟨rfl, hb1⟩; replace hcur := keep_trans hcur hb1; replace x0 := q_cell (keepq hcur HQ1.out) 0; replace x1 := q_cell (keepq hcur HQ1.out) 1; replace x2 := q_cell (keepq hcur HQ1.out) 2; replace x3 := q_cell (keepq hcur HQ1.out) 3; replace xl := q_lt (keepq hcur HQ1.out); replace y0 := q_cell (keepq hcur HQ0.out) 0; replace y1 := q_cell (keepq hcur HQ0.out) 1; replace y2 := q_cell (keepq hcur HQ0.out) 2; replace y3 := q_cell (keepq hcur HQ0.out) 3; replace yl := q_lt (keepq hcur HQ0.out)) | (go_at_call 15; refine (HTK.out _ (keep_trans fB hcur)).mono ?_; rintro _ w1 ⟨rfl, hb1⟩; replace hcur := keep_trans hcur hb1; replace x0 := q_cell (keepq hcur HQ1.out) 0; replace x1 := q_cell (keepq hcur HQ1.out) 1; replace x2 := q_cell (keepq hcur HQ1.out) 2; replace x3 := q_cell (keepq hcur HQ1.out) 3; replace xl := q_lt (keepq hcur HQ1.out); replace y0 := q_cell (keepq hcur HQ0.out) 0; replace y1 := q_cell (keepq hcur HQ0.out) 1; replace y2 := q_cell (keepq hcur HQ0.out) 2; replace y3 := q_cell (keepq hcur HQ0.out) 3; replace yl := q_lt (keepq hcur HQ0.out)) | (go_at_call 16; refine (HOP.out _ (keep_trans fB hcur)).mono ?_; rintro _ w1 ⟨vo, rfl, howno, hb1⟩; obtain ⟨ao, co, rfl⟩ := owns_shape howno; clear howno; replace hcur := keep_trans hcur hb1; replace x0 := q_cell (keepq hcur HQ1.out) 0; replace x1 := q_cell (keepq hcur HQ1.out) 1; replace x2 := q_cell (keepq hcur HQ1.out) 2; replace x3 := q_cell (keepq hcur HQ1.out) 3; replace xl := q_lt (keepq hcur HQ1.out); replace y0 := q_cell (keepq hcur HQ0.out) 0; replace y1 := q_cell (keepq hcur HQ0.out) 1; replace y2 := q_cell (keepq hcur HQ0.out) 2; replace y3 := q_cell (keepq hcur HQ0.out) 3; replace yl := q_lt (keepq hcur HQ0.out)))
            refine (HCO.out _ (keep_trans fB hcur)).mono ?_
            rintro _ w1 ⟨al, nl, cl, rfl, hL, hcl, hb1⟩
            replace hcur := keep_trans hcur hb1
            have hLl := hL.len
            have hLs := hL.small
            replace x0 := q_cell (keepq hcur HQ1.out) 0
            replace x1 := q_cell (keepq hcur HQ1.out) 1
            replace x2 := q_cell (keepq hcur HQ1.out) 2
            replace x3 := q_cell (keepq hcur HQ1.out) 3
            replace xl := q_lt (keepq hcur HQ1.out)
            replace y0 := q_cell (keepq hcur HQ0.out) 0
            replace y1 := q_cell (keepq hcur HQ0.out) 1
            replace y2 := q_cell (keepq hcur HQ0.out) 2
            replace y3 := q_cell (keepq hcur HQ0.out) 3
            replace yl := q_lt (keepq hcur HQ0.out)
            go_wp2_with fail
            refine (HCN.out _ (keep_trans fB hcur)).mono ?_
            rintro _ w1 ⟨rfl, hb1⟩
            replace hcur := keep_trans hcur hb1
            replace hL := hL.mono hb1
            replace x0 := q_cell (keepq hcur HQ1.out) 0
            replace x1 := q_cell (keepq hcur HQ1.out) 1
            replace x2 := q_cell (keepq hcur HQ1.out) 2
            replace x3 := q_cell (keepq hcur HQ1.out) 3
            replace xl := q_lt (keepq hcur HQ1.out)
            replace y0 := q_cell (keepq hcur HQ0.out) 0
            replace y1 := q_cell (keepq hcur HQ0.out) 1
            replace y2 := q_cell (keepq hcur HQ0.out) 2
            replace y3 := q_cell (keepq hcur HQ0.out) 3
            replace yl := q_lt (keepq hcur HQ0.out)
            go_wp2_with (first | (go_at_call 15; refine (HTK.out _ (keep_trans fB hcur)).mono ?_; rintro _ w1 ⟨rfl, hb1⟩; replace hcur := keep_trans hcur hb1; replace hL := hL.mono hb1; replace x0 := q_cell (keepq hcur HQ1.out) 0; replace x1 := q_cell (keepq hcur HQ1.out) 1; replace x2 := q_cell (keepq hcur HQ1.out) 2; replace x3 := q_cell (keepq hcur HQ1.out) 3; replace xl := q_lt (keepq hcur HQ1.out); replace y0 := q_cell (keepq hcur HQ0.out) 0; replace y1 := q_cell (keepq hcur HQ0.out) 1; replace y2 := q_cell (keepq hcur HQ0.out) 2; replace y3 := q_cell (keepq hcur HQ0.out) 3; replace yl := q_lt (keepq hcur HQ0.out)) | (go_at_call 16; refine (HOP.out _ (keep_trans fB hcur)).mono ?_; rintro _ w1 ⟨vo, rfl, howno, hb1⟩; obtain ⟨ao, co, rfl⟩ := owns_shape howno; clear howno; replace hcur := keep_trans hcur hb1; replace hL := hL.mono hb1; replace x0 := q_cell (keepq hcur HQ1.out) 0; replace x1 := q_cell (keepq hcur HQ1.out) 1; replace x2 := q_cell (keepq hcur HQ1.out) 2; replace x3 := q_cell (keepq hcur HQ1.out) 3; replace xl := q_lt (keepq hcur HQ1.out); replace y0 := q_cell (keepq hcur HQ0.out) 0; replace y1 := q_cell (keepq hcur HQ0.out) 1; replace y2 := q_cell (keepq hcur HQ0.out) 2; replace y3 := q_cell (keepq hcur HQ0.out) 3; replace yl := q_lt (keepq hcur HQ0.out)) | (go_at_call 31; refine (first6_b _ _ _ _ _ (IC.new2 _ _ _ _)).mono ?_; rintro _ w1 ⟨rfl, hb1⟩; (first | rw [F1] | rw [F2]); replace hcur := keep_trans (keep_alloc hcur _) hb1; replace hL := hL.mono (keep_trans (keep_alloc (Below.refl _ _) _) hb1); replace x0 := q_cell (keepq hcur HQ1.out) 0; replace x1 := q_cell (keepq hcur HQ1.out) 1; replace x2 := q_cell (keepq hcur HQ1.out) 2; replace x3 := q_cell (keepq hcur HQ1.out) 3; replace xl := q_lt (keepq hcur HQ1.out); replace y0 := q_cell (keepq hcur HQ0.out) 0; replace y1 := q_cell (keepq hcur HQ0.out) 1; replace y2 := q_cell (keepq hcur HQ0.out) 2; replace y3 := q_cell (keepq hcur HQ0.out) 3; replace yl := q_lt (keepq hcur HQ0.out)))
            refine (HSO.out _ (keep_trans fB hcur)).mono ?_
            rintro _ w1 ⟨⟨vf, pre, rfl, hr, hall, _⟩, hb1⟩
            have hpl : pre.length = SL.length := by rw [← hall, List.length_map]
            obtain ⟨a9, cs, e, hrc, hcs⟩ := hr.rc (by omega) (hr.short hall HSL.out)
            subst e
            rw [hall] at hrc
            rw [hpl] at hrc hcs ⊢
            replace hcur := keep_trans hcur hb1
            replace hL := hL.mono hb1
            clear hr hall hpl
            by_cases hmn : most ≤ (SL.length : Int)
            · have ht := hrc.take most.toNat (by omega)
              have HTB := Go.Lib.hid (table_c al a9 nl most.toNat cl cs _ _ _ hL ht)
              rw [show sameT (SL.take most.toNat) (SL.take most.toNat) = true from by simp [sameT]] at HTB
              have hmc : most ≤ (cs : Int) := by omega
              have hm0 : 0 ≤ most := by omega
              clear ht hrc hL
              go_wp2_with (first | (go_at_call 28; refine HTB.out.mono ?_; rintro _ w1 ⟨rfl, hb1⟩; replace hcur := keep_trans hcur hb1) | (go_at_call 17; refine (HA.out _).mono ?_; rintro _ w1 ⟨rfl, hb1⟩; replace hcur := keep_trans hcur hb1))
              go_ret
              exact ⟨rfl, keep_trans fB hcur⟩
            · have HTB := Go.Lib.hid (table_c al a9 nl SL.length cl cs _ _ _ hL hrc)
              rw [show sameT (SL.take most.toNat) SL = true from by unfold sameT; rw [List.take_of_length_le (by omega)]; simp] at HTB
              have hmc : (SL.length : Int) ≤ (cs : Int) := by omega
              have hm2 : (SL.length : Int) < most := by omega
              clear hrc hL
              go_wp2_with (first | (go_at_call 28; refine HTB.out.mono ?_; rintro _ w1 ⟨rfl, hb1⟩; replace hcur := keep_trans hcur hb1) | (go_at_call 17; refine (HA.out _).mono ?_; rintro _ w1 ⟨rfl, hb1⟩; replace hcur := keep_trans hcur hb1))
              go_ret
              exact ⟨rfl, keep_trans fB hcur⟩
      · have h7i : (7 : Int) < ((openL g).length : Int) := by omega
        by_cases h16 : (openL g).length ≤ 16
        · have h16i : ((openL g).length : Int) ≤ 16 := by omega
          go_wp2_with (first | (go_at_call 14; refine (HSH.out _ (keep_trans fB hcur)).mono ?_; rintro _ w1 ⟨rfl, hb1⟩; replace hcur := keep_trans hcur hb1; replace x0 := q_cell (keepq hcur HQ1.out) 0; replace x1 := q_cell (keepq hcur HQ1.out) 1; replace x2 := q_cell (keepq hcur HQ1.out) 2; replace x3 := q_cell (keepq hcur HQ1.out) 3; replace xl := q_lt (keepq hcur HQ1.out); replace y0 := q_cell (keepq hcur HQ0.out) 0; replace y1 := q_cell (keepq hcur HQ0.out) 1; replace y2 := q_cell (keepq hcur HQ0.out) 2; replace y3 := q_cell (keepq hcur HQ0.out) 3; replace yl := q_lt (keepq hcur HQ0.out)) | (go_at_call 15; refine (HTK.out _ (keep_trans fB hcur)).mono ?_; rintro _ w1 ⟨rfl, hb1⟩; replace hcur := keep_trans hcur hb1; replace x0 := q_cell (keepq hcur HQ1.out) 0; replace x1 := q_cell (keepq hcur HQ1.out) 1; replace x2 := q_cell (keepq hcur HQ1.out) 2; replace x3 := q_cell (keepq hcur HQ1.out) 3; replace xl := q_lt (keepq hcur HQ1.out); replace y0 := q_cell (keepq hcur HQ0.out) 0; replace y1 := q_cell (keepq hcur HQ0.out) 1; replace y2 := q_cell (keepq hcur HQ0.out) 2; replace y3 := q_cell (keepq hcur HQ0.out) 3; replace yl := q_lt (keepq hcur HQ0.out)) | (go_at_call 16; refine (HOP.out _ (keep_trans fB hcur)).mono ?_; rintro _ w1 ⟨vo, rfl, howno, hb1⟩; obtain ⟨ao, co, rfl⟩ := owns_shape howno; clear howno; replace hcur := keep_trans hcur hb1; replace x0 := q_cell (keepq hcur HQ1.out) 0; replace x1 := q_cell (keepq hcur HQ1.out) 1; replace x2 := q_cell (keepq hcur HQ1.out) 2; replace x3 := q_cell (keepq hcur HQ1.out) 3; replace xl := q_lt (keepq hcur HQ1.out); replace y0 := q_cell (keepq hcur HQ0.out) 0; replace y1 := q_cell (keepq hcur HQ0.out) 1; replace y2 := q_cell (keepq hcur HQ0.out) 2; replace y3 := q_cell (keepq hcur HQ0.out) 3; replace yl := q_lt (keepq hcur HQ0.out)) | (go_at_call 17; refine (HA.out _).mono ?_; rintro _ w1 ⟨rfl, hb1⟩; replace hcur := keep_trans hcur hb1))
          go_ret
          exact ⟨rfl, keep_trans fB hcur⟩
        · have h16i : (16 : Int) < ((openL g).length : Int) := by omega
          have h16j : ¬ ((openL g).length : Int) ≤ 16 := by omega
          have hse : se = 20 := by rw [hSE.out, decide_eq_true (by omega)]; rfl
          have hE2 : E2 = 20 := by rw [hNE.out, hse, if_pos (by decide)]
          have hN2 : N2 = 0 := by rw [hNN.out, hse, if_pos (by decide)]
          rw [hE2, hN2] at HCN
          have F2 : firstL [0, 20] = 20 := rfl
          clear HGT HGL HS6 hNE hNN hE2 hN2 G
          by_cases m1 : most < 1
          · have hE1 : E1 = 3 := by rw [hCE.out, hse, decide_eq_true m1]; rfl
            rw [hE1] at HCO hCL
            have hL1 : L1 = [] := by rw [hCL.out]; rfl
            rw [hL1] at HCO
            have F1 : firstL [3, 20] = 3 := rfl
            clear hCE hCL hE1 hL1 hSE hse
            go_wp2_with (first | (go_at_call 14; refine (HSH.out _ (keep_trans fB hcur)).mono ?_; rintro _ w1 ⟨rfl, hb1⟩; replace hcur := keep_trans hcur hb1; replace x0 := q_cell (keepq hcur HQ1.out) 0; replace x1 := q_cell (keepq hcur HQ1.out) 1; replace x2 := q_cell (keepq hcur HQ1.out) 2; replace x3 := q_cell (keepq hcur HQ1.out) 3; replace xl := q_lt (keepq hcur HQ1.out); replace y0 := q_cell (keepq hcur HQ0.out) 0; replace y1 := q_cell (keepq hcur HQ0.out) 1; replace y2 := q_cell (keepq hcur HQ0.out) 2; replace y3 := q_cell (keepq hcur HQ0.out) 3; replace yl := q_lt (keepq hcur HQ0.out)) | (go_at_call 15; refine (HTK.out _ (keep_trans fB hcur)).mono ?_; rintro _ w1 ⟨rfl, hb1⟩; replace hcur := keep_trans hcur hb1; replace x0 := q_cell (keepq hcur HQ1.out) 0; replace x1 := q_cell (keepq hcur HQ1.out) 1; replace x2 := q_cell (keepq hcur HQ1.out) 2; replace x3 := q_cell (keepq hcur HQ1.out) 3; replace xl := q_lt (keepq hcur HQ1.out); replace y0 := q_cell (keepq hcur HQ0.out) 0; replace y1 := q_cell (keepq hcur HQ0.out) 1; replace y2 := q_cell (keepq hcur HQ0.out) 2; replace y3 := q_cell (keepq hcur HQ0.out) 3; replace yl := q_lt (keepq hcur HQ0.out)) | (go_at_call 16; refine (HOP.out _ (keep_trans fB hcur)).mono ?_; rintro _ w1 ⟨vo, rfl, howno, hb1⟩; obtain ⟨ao, co, rfl⟩ := owns_shape howno; clear howno; replace hcur := keep_trans hcur hb1; replace x0 := q_cell (keepq hcur HQ1.out) 0; replace x1 := q_cell (keepq hcur HQ1.out) 1; replace x2 := q_cell (keepq hcur HQ1.out) 2; replace x3 := q_cell (keepq hcur HQ1.out) 3; replace xl := q_lt (keepq hcur HQ1.out); replace y0 := q_cell (keepq hcur HQ0.out) 0; replace y1 := q_cell (keepq hcur HQ0.out) 1; replace y2 := q_cell (keepq hcur HQ0.out) 2; replace y3 := q_cell (keepq hcur HQ0.out) 3; replace yl := q_lt (keepq hcur HQ0.out)))
            refine (HCO.out _ (keep_trans fB hcur)).mono ?_
            rintro _ w1 ⟨al, nl, cl, rfl, hL, hcl, hb1⟩
            replace hcur := keep_trans hcur hb1
            have hLl := hL.len
            have hLs := hL.small
            replace x0 := q_cell (keepq hcur HQ1.out) 0
            replace x1 := q_cell (keepq hcur HQ1.out) 1
            replace x2 := q_cell (keepq hcur HQ1.out) 2
            replace x3 := q_cell (keepq hcur HQ1.out) 3
            replace xl := q_lt (keepq hcur HQ1.out)
            replace y0 := q_cell (keepq hcur HQ0.out) 0
            replace y1 := q_cell (keepq hcur HQ0.out) 1
            replace y2 := q_cell (keepq hcur HQ0.out) 2
            replace y3 := q_cell (keepq hcur HQ0.out) 3
            replace yl := q_lt (keepq hcur HQ0.out)
            rw [List.length_nil] at hLl
            subst hLl
            go_wp2_with fail
            refine (HCN.out _ (keep_trans fB hcur)).mono ?_
            rintro _ w1 ⟨rfl, hb1⟩
            replace hcur := keep_trans hcur hb1
            replace hL := hL.mono hb1
            replace x0 := q_cell (keepq hcur HQ1.out) 0
            replace x1 := q_cell (keepq hcur HQ1.out) 1
            replace x2 := q_cell (keepq hcur HQ1.out) 2
            replace x3 := q_cell (keepq hcur HQ1.out) 3
            replace xl := q_lt (keepq hcur HQ1.out)
            replace y0 := q_cell (keepq hcur HQ0.out) 0
            replace y1 := q_cell (keepq hcur HQ0.out) 1
            replace y2 := q_cell (keepq hcur HQ0.out) 2
            replace y3 := q_cell (keepq hcur HQ0.out) 3
            replace yl := q_lt (keepq hcur HQ0.out)
            go_wp2_with (first | (go_at_call 15; refine (HTK.out _ (keep_trans fB hcur)).mono ?_; rintro _ w1 ⟨rfl, hb1⟩; replace hcur := keep_trans hcur hb1; replace x0 := q_cell (keepq hcur HQ1.out) 0; replace x1 := q_cell (keepq hcur HQ1.out) 1; replace x2 := q_cell (keepq hcur HQ1.out) 2; replace x3 := q_cell (keepq hcur HQ1.out) 3; replace xl := q_lt (keepq hcur HQ1.out); replace y0 := q_cell (keepq hcur HQ0.out) 0; replace y1 := q_cell (keepq hcur HQ0.out) 1; replace y2 := q_cell (keepq hcur HQ0.out) 2; replace y3 := q_cell (keepq hcur HQ0.out) 3; replace yl := q_lt (keepq hcur HQ0.out)) | (go_at_call 16; refine (HOP.out _ (keep_trans fB hcur)).mono ?_; rintro _ w1 ⟨vo, rfl, howno, hb1⟩; obtain ⟨ao, co, rfl⟩ := owns_shape howno; clear howno; replace hcur := keep_trans hcur hb1; replace x0 := q_cell (keepq hcur HQ1.out) 0; replace x1 := q_cell (keepq hcur HQ1.out) 1; replace x2 := q_cell (keepq hcur HQ1.out) 2; replace x3 := q_cell (keepq hcur HQ1.out) 3; replace xl := q_lt (keepq hcur HQ1.out); replace y0 := q_cell (keepq hcur HQ0.out) 0; replace y1 := q_cell (keepq hcur HQ0.out) 1; replace y2 := q_cell (keepq hcur HQ0.out) 2; replace y3 := q_cell (keepq hcur HQ0.out) 3; replace yl := q_lt (keepq hcur HQ0.out)) | (go_at_call 31; refine (first6_b _ _ _ _ _ (IC.new2 _ _ _ _)).mono ?_; rintro _ w1 ⟨rfl, hb1⟩; (first | rw [F1] | rw [F2]); replace hcur := keep_trans (keep_alloc hcur _) hb1; replace x0 := q_cell (keepq hcur HQ1.out) 0; replace x1 := q_cell (keepq hcur HQ1.out) 1; replace x2 := q_cell (keepq hcur HQ1.out) 2; replace x3 := q_cell (keepq hcur HQ1.out) 3; replace xl := q_lt (keepq hcur HQ1.out); replace y0 := q_cell (keepq hcur HQ0.out) 0; replace y1 := q_cell (keepq hcur HQ0.out) 1; replace y2 := q_cell (keepq hcur HQ0.out) 2; replace y3 := q_cell (keepq hcur HQ0.out) 3; replace yl := q_lt (keepq hcur HQ0.out)) | (go_at_call 17; refine (HA.out _).mono ?_; rintro _ w1 ⟨rfl, hb1⟩; replace hcur := keep_trans hcur hb1))
            go_ret
            exact ⟨rfl, keep_trans fB hcur⟩
          · by_cases m2 : 256 < most
            · have hE1 : E1 = 3 := by rw [hCE.out, hse, decide_eq_true m2, Bool.or_true]; rfl
              rw [hE1] at HCO hCL
              have hL1 : L1 = [] := by rw [hCL.out]; rfl
              rw [hL1] at HCO
              have F1 : firstL [3, 20] = 3 := rfl
              clear hCE hCL hE1 hL1 hSE hse
              go_wp2_with (first | (go_at_call 14; refine (HSH.out _ (keep_trans fB hcur)).mono ?_; rintro _ w1 ⟨rfl, hb1⟩; replace hcur := keep_trans hcur hb1; replace x0 := q_cell (keepq hcur HQ1.out) 0; replace x1 := q_cell (keepq hcur HQ1.out) 1; replace x2 := q_cell (keepq hcur HQ1.out) 2; replace x3 := q_cell (keepq hcur HQ1.out) 3; replace xl := q_lt (keepq hcur HQ1.out); replace y0 := q_cell (keepq hcur HQ0.out) 0; replace y1 := q_cell (keepq hcur HQ0.out) 1; replace y2 := q_cell (keepq hcur HQ0.out) 2; replace y3 := q_cell (keepq hcur HQ0.out) 3; replace yl := q_lt (keepq hcur HQ0.out)) | (go_at_call 15; refine (HTK.out _ (keep_trans fB hcur)).mono ?_; rintro _ w1 ⟨rfl, hb1⟩; replace hcur := keep_trans hcur hb1; replace x0 := q_cell (keepq hcur HQ1.out) 0; replace x1 := q_cell (keepq hcur HQ1.out) 1; replace x2 := q_cell (keepq hcur HQ1.out) 2; replace x3 := q_cell (keepq hcur HQ1.out) 3; replace xl := q_lt (keepq hcur HQ1.out); replace y0 := q_cell (keepq hcur HQ0.out) 0; replace y1 := q_cell (keepq hcur HQ0.out) 1; replace y2 := q_cell (keepq hcur HQ0.out) 2; replace y3 := q_cell (keepq hcur HQ0.out) 3; replace yl := q_lt (keepq hcur HQ0.out)) | (go_at_call 16; refine (HOP.out _ (keep_trans fB hcur)).mono ?_; rintro _ w1 ⟨vo, rfl, howno, hb1⟩; obtain ⟨ao, co, rfl⟩ := owns_shape howno; clear howno; replace hcur := keep_trans hcur hb1; replace x0 := q_cell (keepq hcur HQ1.out) 0; replace x1 := q_cell (keepq hcur HQ1.out) 1; replace x2 := q_cell (keepq hcur HQ1.out) 2; replace x3 := q_cell (keepq hcur HQ1.out) 3; replace xl := q_lt (keepq hcur HQ1.out); replace y0 := q_cell (keepq hcur HQ0.out) 0; replace y1 := q_cell (keepq hcur HQ0.out) 1; replace y2 := q_cell (keepq hcur HQ0.out) 2; replace y3 := q_cell (keepq hcur HQ0.out) 3; replace yl := q_lt (keepq hcur HQ0.out)))
              refine (HCO.out _ (keep_trans fB hcur)).mono ?_
              rintro _ w1 ⟨al, nl, cl, rfl, hL, hcl, hb1⟩
              replace hcur := keep_trans hcur hb1
              have hLl := hL.len
              have hLs := hL.small
              replace x0 := q_cell (keepq hcur HQ1.out) 0
              replace x1 := q_cell (keepq hcur HQ1.out) 1
              replace x2 := q_cell (keepq hcur HQ1.out) 2
              replace x3 := q_cell (keepq hcur HQ1.out) 3
              replace xl := q_lt (keepq hcur HQ1.out)
              replace y0 := q_cell (keepq hcur HQ0.out) 0
              replace y1 := q_cell (keepq hcur HQ0.out) 1
              replace y2 := q_cell (keepq hcur HQ0.out) 2
              replace y3 := q_cell (keepq hcur HQ0.out) 3
              replace yl := q_lt (keepq hcur HQ0.out)
              rw [List.length_nil] at hLl
              subst hLl
              go_wp2_with fail
              refine (HCN.out _ (keep_trans fB hcur)).mono ?_
              rintro _ w1 ⟨rfl, hb1⟩
              replace hcur := keep_trans hcur hb1
              replace hL := hL.mono hb1
              replace x0 := q_cell (keepq hcur HQ1.out) 0
              replace x1 := q_cell (keepq hcur HQ1.out) 1
              replace x2 := q_cell (keepq hcur HQ1.out) 2
              replace x3 := q_cell (keepq hcur HQ1.out) 3
              replace xl := q_lt (keepq hcur HQ1.out)
              replace y0 := q_cell (keepq hcur HQ0.out) 0
              replace y1 := q_cell (keepq hcur HQ0.out) 1
              replace y2 := q_cell (keepq hcur HQ0.out) 2
              replace y3 := q_cell (keepq hcur HQ0.out) 3
              replace yl := q_lt (keepq hcur HQ0.out)
              go_wp2_with (first | (go_at_call 15; refine (HTK.out _ (keep_trans fB hcur)).mono ?_; rintro _ w1 ⟨rfl, hb1⟩; replace hcur := keep_trans hcur hb1; replace x0 := q_cell (keepq hcur HQ1.out) 0; replace x1 := q_cell (keepq hcur HQ1.out) 1; replace x2 := q_cell (keepq hcur HQ1.out) 2; replace x3 := q_cell (keepq hcur HQ1.out) 3; replace xl := q_lt (keepq hcur HQ1.out); replace y0 := q_cell (keepq hcur HQ0.out) 0; replace y1 := q_cell (keepq hcur HQ0.out) 1; replace y2 := q_cell (keepq hcur HQ0.out) 2; replace y3 := q_cell (keepq hcur HQ0.out) 3; replace yl := q_lt (keepq hcur HQ0.out)) | (go_at_call 16; refine (HOP.out _ (keep_trans fB hcur)).mono ?_; rintro _ w1 ⟨vo, rfl, howno, hb1⟩; obtain ⟨ao, co, rfl⟩ := owns_shape howno; clear howno; replace hcur := keep_trans hcur hb1; replace x0 := q_cell (keepq hcur HQ1.out) 0; replace x1 := q_cell (keepq hcur HQ1.out) 1; replace x2 := q_cell (keepq hcur HQ1.out) 2; replace x3 := q_cell (keepq hcur HQ1.out) 3; replace xl := q_lt (keepq hcur HQ1.out); replace y0 := q_cell (keepq hcur HQ0.out) 0; replace y1 := q_cell (keepq hcur HQ0.out) 1; replace y2 := q_cell (keepq hcur HQ0.out) 2; replace y3 := q_cell (keepq hcur HQ0.out) 3; replace yl := q_lt (keepq hcur HQ0.out)) | (go_at_call 31; refine (first6_b _ _ _ _ _ (IC.new2 _ _ _ _)).mono ?_; rintro _ w1 ⟨rfl, hb1⟩; (first | rw [F1] | rw [F2]); replace hcur := keep_trans (keep_alloc hcur _) hb1; replace x0 := q_cell (keepq hcur HQ1.out) 0; replace x1 := q_cell (keepq hcur HQ1.out) 1; replace x2 := q_cell (keepq hcur HQ1.out) 2; replace x3 := q_cell (keepq hcur HQ1.out) 3; replace xl := q_lt (keepq hcur HQ1.out); replace y0 := q_cell (keepq hcur HQ0.out) 0; replace y1 := q_cell (keepq hcur HQ0.out) 1; replace y2 := q_cell (keepq hcur HQ0.out) 2; replace y3 := q_cell (keepq hcur HQ0.out) 3; replace yl := q_lt (keepq hcur HQ0.out)) | (go_at_call 17; refine (HA.out _).mono ?_; rintro _ w1 ⟨rfl, hb1⟩; replace hcur := keep_trans hcur hb1))
              go_ret
              exact ⟨rfl, keep_trans fB hcur⟩
            · have hE1 : E1 = 20 := by rw [hCE.out, hse, decide_eq_false m1, decide_eq_false m2]; rfl
              rw [hE1] at HCO hCL
              have hL1 : L1 = [] := by rw [hCL.out]; rfl
              rw [hL1] at HCO
              have F1 : firstL [0, 20] = 20 := rfl
              clear hCE hCL hE1 hL1 hSE hse
              go_wp2_with (first | (go_at_call 14; refine (HSH.out _ (keep_trans fB hcur)).mono ?_; rintro _ w1 ⟨rfl, hb1⟩; replace hcur := keep_trans hcur hb1; replace x0 := q_cell (keepq hcur HQ1.out) 0; replace x1 := q_cell (keepq hcur HQ1.out) 1; replace x2 := q_cell (keepq hcur HQ1.out) 2; replace x3 := q_cell (keepq hcur HQ1.out) 3; replace xl := q_lt (keepq hcur HQ1.out); replace y0 := q_cell (keepq hcur HQ0.out) 0; replace y1 := q_cell (keepq hcur HQ0.out) 1; replace y2 := q_cell (keepq hcur HQ0.out) 2; replace y3 := q_cell (keepq hcur HQ0.out) 3; replace yl := q_lt (keepq hcur HQ0.out)) | (go_at_call 15; refine (HTK.out _ (keep_trans fB hcur)).mono ?_; rintro _ w1 ⟨rfl, hb1⟩; replace hcur := keep_trans hcur hb1; replace x0 := q_cell (keepq hcur HQ1.out) 0; replace x1 := q_cell (keepq hcur HQ1.out) 1; replace x2 := q_cell (keepq hcur HQ1.out) 2; replace x3 := q_cell (keepq hcur HQ1.out) 3; replace xl := q_lt (keepq hcur HQ1.out); replace y0 := q_cell (keepq hcur HQ0.out) 0; replace y1 := q_cell (keepq hcur HQ0.out) 1; replace y2 := q_cell (keepq hcur HQ0.out) 2; replace y3 := q_cell (keepq hcur HQ0.out) 3; replace yl := q_lt (keepq hcur HQ0.out)) | (go_at_call 16; refine (HOP.out _ (keep_trans fB hcur)).mono ?_; rintro _ w1 ⟨vo, rfl, howno, hb1⟩; obtain ⟨ao, co, rfl⟩ := owns_shape howno; clear howno; replace hcur := keep_trans hcur hb1; replace x0 := q_cell (keepq hcur HQ1.out) 0; replace x1 := q_cell (keepq hcur HQ1.out) 1; replace x2 := q_cell (keepq hcur HQ1.out) 2; replace x3 := q_cell (keepq hcur HQ1.out) 3; replace xl := q_lt (keepq hcur HQ1.out); replace y0 := q_cell (keepq hcur HQ0.out) 0; replace y1 := q_cell (keepq hcur HQ0.out) 1; replace y2 := q_cell (keepq hcur HQ0.out) 2; replace y3 := q_cell (keepq hcur HQ0.out) 3; replace yl := q_lt (keepq hcur HQ0.out)))
              refine (HCO.out _ (keep_trans fB hcur)).mono ?_
              rintro _ w1 ⟨al, nl, cl, rfl, hL, hcl, hb1⟩
              replace hcur := keep_trans hcur hb1
              have hLl := hL.len
              have hLs := hL.small
              replace x0 := q_cell (keepq hcur HQ1.out) 0
              replace x1 := q_cell (keepq hcur HQ1.out) 1
              replace x2 := q_cell (keepq hcur HQ1.out) 2
              replace x3 := q_cell (keepq hcur HQ1.out) 3
              replace xl := q_lt (keepq hcur HQ1.out)
              replace y0 := q_cell (keepq hcur HQ0.out) 0
              replace y1 := q_cell (keepq hcur HQ0.out) 1
              replace y2 := q_cell (keepq hcur HQ0.out) 2
              replace y3 := q_cell (keepq hcur HQ0.out) 3
              replace yl := q_lt (keepq hcur HQ0.out)
              rw [List.length_nil] at hLl
              subst hLl
              go_wp2_with fail
              refine (HCN.out _ (keep_trans fB hcur)).mono ?_
              rintro _ w1 ⟨rfl, hb1⟩
              replace hcur := keep_trans hcur hb1
              replace hL := hL.mono hb1
              replace x0 := q_cell (keepq hcur HQ1.out) 0
              replace x1 := q_cell (keepq hcur HQ1.out) 1
              replace x2 := q_cell (keepq hcur HQ1.out) 2
              replace x3 := q_cell (keepq hcur HQ1.out) 3
              replace xl := q_lt (keepq hcur HQ1.out)
              replace y0 := q_cell (keepq hcur HQ0.out) 0
              replace y1 := q_cell (keepq hcur HQ0.out) 1
              replace y2 := q_cell (keepq hcur HQ0.out) 2
              replace y3 := q_cell (keepq hcur HQ0.out) 3
              replace yl := q_lt (keepq hcur HQ0.out)
              go_wp2_with (first | (go_at_call 15; refine (HTK.out _ (keep_trans fB hcur)).mono ?_; rintro _ w1 ⟨rfl, hb1⟩; replace hcur := keep_trans hcur hb1; replace x0 := q_cell (keepq hcur HQ1.out) 0; replace x1 := q_cell (keepq hcur HQ1.out) 1; replace x2 := q_cell (keepq hcur HQ1.out) 2; replace x3 := q_cell (keepq hcur HQ1.out) 3; replace xl := q_lt (keepq hcur HQ1.out); replace y0 := q_cell (keepq hcur HQ0.out) 0; replace y1 := q_cell (keepq hcur HQ0.out) 1; replace y2 := q_cell (keepq hcur HQ0.out) 2; replace y3 := q_cell (keepq hcur HQ0.out) 3; replace yl := q_lt (keepq hcur HQ0.out)) | (go_at_call 16; refine (HOP.out _ (keep_trans fB hcur)).mono ?_; rintro _ w1 ⟨vo, rfl, howno, hb1⟩; obtain ⟨ao, co, rfl⟩ := owns_shape howno; clear howno; replace hcur := keep_trans hcur hb1; replace x0 := q_cell (keepq hcur HQ1.out) 0; replace x1 := q_cell (keepq hcur HQ1.out) 1; replace x2 := q_cell (keepq hcur HQ1.out) 2; replace x3 := q_cell (keepq hcur HQ1.out) 3; replace xl := q_lt (keepq hcur HQ1.out); replace y0 := q_cell (keepq hcur HQ0.out) 0; replace y1 := q_cell (keepq hcur HQ0.out) 1; replace y2 := q_cell (keepq hcur HQ0.out) 2; replace y3 := q_cell (keepq hcur HQ0.out) 3; replace yl := q_lt (keepq hcur HQ0.out)) | (go_at_call 31; refine (first6_b _ _ _ _ _ (IC.new2 _ _ _ _)).mono ?_; rintro _ w1 ⟨rfl, hb1⟩; (first | rw [F1] | rw [F2]); replace hcur := keep_trans (keep_alloc hcur _) hb1; replace x0 := q_cell (keepq hcur HQ1.out) 0; replace x1 := q_cell (keepq hcur HQ1.out) 1; replace x2 := q_cell (keepq hcur HQ1.out) 2; replace x3 := q_cell (keepq hcur HQ1.out) 3; replace xl := q_lt (keepq hcur HQ1.out); replace y0 := q_cell (keepq hcur HQ0.out) 0; replace y1 := q_cell (keepq hcur HQ0.out) 1; replace y2 := q_cell (keepq hcur HQ0.out) 2; replace y3 := q_cell (keepq hcur HQ0.out) 3; replace yl := q_lt (keepq hcur HQ0.out)) | (go_at_call 17; refine (HA.out _).mono ?_; rintro _ w1 ⟨rfl, hb1⟩; replace hcur := keep_trans hcur hb1))
              go_ret
              exact ⟨rfl, keep_trans fB hcur⟩
    · have hti : (te == 0) = false := by simpa using ht
      have htn : (te != 0) = true := by simpa using ht
      have hse : se = te := by rw [hSE.out, if_pos htn]
      have hE2 : E2 = te := by rw [hNE.out, hse, if_pos htn]
      have hN2 : N2 = 0 := by rw [hNN.out, hse, if_pos htn]
      rw [hE2, hN2] at HCN
      have F1 : firstL [te, 0] = te := by simp only [firstL]; rw [if_pos htn]
      have hE1 : E1 = te := by rw [hCE.out]; simp only [firstL]; rw [if_pos htn]
      rw [hE1] at HCO hCL
      have hL1 : L1 = [] := by rw [hCL.out, if_pos htn]
      rw [hL1] at HCO
      have F2 := F1
      clear HGT HGL HS6 hNE hNN hE2 hN2 hCE hCL hE1 hL1 hSE hse
      go_wp2_with (first | (go_at_call 14; refine (HSH.out _ (keep_trans fB hcur)).mono ?_; rintro _ w1 ⟨rfl, hb1⟩; replace hcur := keep_trans hcur hb1; replace x0 := q_cell (keepq hcur HQ1.out) 0; replace x1 := q_cell (keepq hcur HQ1.out) 1; replace x2 := q_cell (keepq hcur HQ1.out) 2; replace x3 := q_cell (keepq hcur HQ1.out) 3; replace xl := q_lt (keepq hcur HQ1.out); replace y0 := q_cell (keepq hcur HQ0.out) 0; replace y1 := q_cell (keepq hcur HQ0.out) 1; replace y2 := q_cell (keepq hcur HQ0.out) 2; replace y3 := q_cell (keepq hcur HQ0.out) 3; replace yl := q_lt (keepq hcur HQ0.out)) | (go_at_call 15; refine (HTK.out _ (keep_trans fB hcur)).mono ?_; rintro _ w1 ⟨rfl, hb1⟩; replace hcur := keep_trans hcur hb1; replace x0 := q_cell (keepq hcur HQ1.out) 0; replace x1 := q_cell (keepq hcur HQ1.out) 1; replace x2 := q_cell (keepq hcur HQ1.out) 2; replace x3 := q_cell (keepq hcur HQ1.out) 3; replace xl := q_lt (keepq hcur HQ1.out); replace y0 := q_cell (keepq hcur HQ0.out) 0; replace y1 := q_cell (keepq hcur HQ0.out) 1; replace y2 := q_cell (keepq hcur HQ0.out) 2; replace y3 := q_cell (keepq hcur HQ0.out) 3; replace yl := q_lt (keepq hcur HQ0.out)) | (go_at_call 16; refine (HOP.out _ (keep_trans fB hcur)).mono ?_; rintro _ w1 ⟨vo, rfl, howno, hb1⟩; obtain ⟨ao, co, rfl⟩ := owns_shape howno; clear howno; replace hcur := keep_trans hcur hb1; replace x0 := q_cell (keepq hcur HQ1.out) 0; replace x1 := q_cell (keepq hcur HQ1.out) 1; replace x2 := q_cell (keepq hcur HQ1.out) 2; replace x3 := q_cell (keepq hcur HQ1.out) 3; replace xl := q_lt (keepq hcur HQ1.out); replace y0 := q_cell (keepq hcur HQ0.out) 0; replace y1 := q_cell (keepq hcur HQ0.out) 1; replace y2 := q_cell (keepq hcur HQ0.out) 2; replace y3 := q_cell (keepq hcur HQ0.out) 3; replace yl := q_lt (keepq hcur HQ0.out)))
      refine (HCO.out _ (keep_trans fB hcur)).mono ?_
      rintro _ w1 ⟨al, nl, cl, rfl, hL, hcl, hb1⟩
      replace hcur := keep_trans hcur hb1
      have hLl := hL.len
      have hLs := hL.small
      replace x0 := q_cell (keepq hcur HQ1.out) 0
      replace x1 := q_cell (keepq hcur HQ1.out) 1
      replace x2 := q_cell (keepq hcur HQ1.out) 2
      replace x3 := q_cell (keepq hcur HQ1.out) 3
      replace xl := q_lt (keepq hcur HQ1.out)
      replace y0 := q_cell (keepq hcur HQ0.out) 0
      replace y1 := q_cell (keepq hcur HQ0.out) 1
      replace y2 := q_cell (keepq hcur HQ0.out) 2
      replace y3 := q_cell (keepq hcur HQ0.out) 3
      replace yl := q_lt (keepq hcur HQ0.out)
      rw [List.length_nil] at hLl
      subst hLl
      go_wp2_with fail
      refine (HCN.out _ (keep_trans fB hcur)).mono ?_
      rintro _ w1 ⟨rfl, hb1⟩
      replace hcur := keep_trans hcur hb1
      replace hL := hL.mono hb1
      replace x0 := q_cell (keepq hcur HQ1.out) 0
      replace x1 := q_cell (keepq hcur HQ1.out) 1
      replace x2 := q_cell (keepq hcur HQ1.out) 2
      replace x3 := q_cell (keepq hcur HQ1.out) 3
      replace xl := q_lt (keepq hcur HQ1.out)
      replace y0 := q_cell (keepq hcur HQ0.out) 0
      replace y1 := q_cell (keepq hcur HQ0.out) 1
      replace y2 := q_cell (keepq hcur HQ0.out) 2
      replace y3 := q_cell (keepq hcur HQ0.out) 3
      replace yl := q_lt (keepq hcur HQ0.out)
      go_wp2_with (first | (go_at_call 15; refine (HTK.out _ (keep_trans fB hcur)).mono ?_; rintro _ w1 ⟨rfl, hb1⟩; replace hcur := keep_trans hcur hb1; replace x0 := q_cell (keepq hcur HQ1.out) 0; replace x1 := q_cell (keepq hcur HQ1.out) 1; replace x2 := q_cell (keepq hcur HQ1.out) 2; replace x3 := q_cell (keepq hcur HQ1.out) 3; replace xl := q_lt (keepq hcur HQ1.out); replace y0 := q_cell (keepq hcur HQ0.out) 0; replace y1 := q_cell (keepq hcur HQ0.out) 1; replace y2 := q_cell (keepq hcur HQ0.out) 2; replace y3 := q_cell (keepq hcur HQ0.out) 3; replace yl := q_lt (keepq hcur HQ0.out)) | (go_at_call 16; refine (HOP.out _ (keep_trans fB hcur)).mono ?_; rintro _ w1 ⟨vo, rfl, howno, hb1⟩; obtain ⟨ao, co, rfl⟩ := owns_shape howno; clear howno; replace hcur := keep_trans hcur hb1; replace x0 := q_cell (keepq hcur HQ1.out) 0; replace x1 := q_cell (keepq hcur HQ1.out) 1; replace x2 := q_cell (keepq hcur HQ1.out) 2; replace x3 := q_cell (keepq hcur HQ1.out) 3; replace xl := q_lt (keepq hcur HQ1.out); replace y0 := q_cell (keepq hcur HQ0.out) 0; replace y1 := q_cell (keepq hcur HQ0.out) 1; replace y2 := q_cell (keepq hcur HQ0.out) 2; replace y3 := q_cell (keepq hcur HQ0.out) 3; replace yl := q_lt (keepq hcur HQ0.out)) | (go_at_call 31; refine (first6_b _ _ _ _ _ (IC.new2 _ _ _ _)).mono ?_; rintro _ w1 ⟨rfl, hb1⟩; (first | rw [F1] | rw [F2]); replace hcur := keep_trans (keep_alloc hcur _) hb1; replace x0 := q_cell (keepq hcur HQ1.out) 0; replace x1 := q_cell (keepq hcur HQ1.out) 1; replace x2 := q_cell (keepq hcur HQ1.out) 2; replace x3 := q_cell (keepq hcur HQ1.out) 3; replace xl := q_lt (keepq hcur HQ1.out); replace y0 := q_cell (keepq hcur HQ0.out) 0; replace y1 := q_cell (keepq hcur HQ0.out) 1; replace y2 := q_cell (keepq hcur HQ0.out) 2; replace y3 := q_cell (keepq hcur HQ0.out) 3; replace yl := q_lt (keepq hcur HQ0.out)) | (go_at_call 17; refine (HA.out _).mono ?_; rintro _ w1 ⟨rfl, hb1⟩; replace hcur := keep_trans hcur hb1))
      go_ret
      exact ⟨rfl, keep_trans fB hcur⟩
end Go.Proofs.YtcblpobiefmjmaaGreat
