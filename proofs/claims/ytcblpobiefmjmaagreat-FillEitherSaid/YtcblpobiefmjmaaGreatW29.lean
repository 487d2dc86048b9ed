/- Texts Q4 to Q4 of this proof, in one file. -/
import Derived.Test.YtcblpobiefmjmaaGreatW06
import Derived.Test.YtcblpobiefmjmaaGreatW19
import Derived.Test.YtcblpobiefmjmaaGreatW20
import Derived.Test.YtcblpobiefmjmaaGreatW27
import Derived.Test.YtcblpobiefmjmaaGreatW28
namespace Go.Proofs.YtcblpobiefmjmaaGreat
set_option maxRecDepth 100000
set_option maxHeartbeats 16000000
section
open Go Go.RowKit
attribute [local go_sem] over_cell
attribute [local go_sem] Oper.semAt_some
theorem few_sys {cells : Int} {ls : List (List Int)} {sum : Int} {g : List Int} {cc op : Int} (h : few6B cc op cells sum ls g = true) : sysErr cells ls = 0 := by
 unfold few6B few2B at h
 simp only [Bool.and_eq_true, beq_iff_eq, decide_eq_true_eq] at h
 omega
theorem taskErr_good {cells : Int} {ls : List (List Int)} {sum : Int} {g : List Int} (G : GoodTask cells ls sum g) (hs : sysErr cells ls = 0) : taskErr cells ls sum g = 0 := by
 have h1 := G.sum1
 have h2 := G.sum2
 have h3 := G.len
 unfold taskErr
 rw [if_neg (by rw [hs]; decide), if_neg (by omega), if_neg (by omega)]
 refine errs_none (fun i hi => ?_)
 have h4 := G.num i hi
 unfold givenBad
 rw [if_neg (by omega), if_neg]
 rintro ⟨h5, h6⟩
 obtain ⟨j, hj, e⟩ := List.getElem_of_mem (hasB_iff.1 h6)
 rw [List.length_take] at hj
 rw [List.getElem_take] at e
 have h7 := G.apart j i (by omega) hi h5
 rw [List.getElem?_eq_getElem (by omega : j < g.length), Option.getD_some] at h7
 exact h7 e
theorem feither_c (a : Option Addr) (n c : Nat) (ls : List (List Int)) (cells sum : Int) (a' : Option Addr) (n' c' : Nat) (g : List Int) (cell number : Int) (w : World) (h : RC w a n ls) (hcap : n ≤ c) (h' : IC w a' n' g) (hcap' : n' ≤ c') :
  Calls Tryz.prog 8 #[.agg #[.int .i64 cells, .slice a n c, .int .i64 sum, .slice a' n' c'], .int .i64 cell, .int .i64 number] w fun e w' => e = .returned (.bool true) ∧ Below w.heap.size w w' := by
 have HA := Lib.hid awake_c
 have H := Lib.hid h
 have H' := Lib.hid h'
 have hns := h'.small
 have hgl := Lib.hid h'.len
 have HFW := Lib.hid (fun w1 (hb : Below w.heap.size w w1) => few6_c a n c ls cells sum a' n' c' g 16 6 w1 (h.mono hb) hcap (h'.mono hb) hcap')
 have HCO := Lib.hid (fun w1 (hb : Below w.heap.size w w1) => comp_c a n c ls cells sum a' n' c' g 3 w1 (h.mono hb) hcap (h'.mono hb) hcap')
 have HRF := Lib.hid (fun (hok : refuteE cells ls sum g = 0 → okTB ls sum ((openL g).length + 1) g = true ∧ (madeT ls sum ((openL g).length + 1) g).length ≤ 1000000000000) w1 (hb : Below w.heap.size w w1) => refute_c a n c ls cells sum a' n' c' g ((openL g).length + 1) w1 (h.mono hb) hcap (h'.mono hb) hcap' hok)
 have HTR := Lib.hid (fun (T : List Nd) ar nr cr w1 (ht : TC w1 ar nr T) => rtree_c (.int .i64 cells) (.slice a n c) (.int .i64 sum) a' n' c' ar nr cr T w1 ht)
 have HRE := Lib.hid (fun (G : GoodTask cells ls sum g) (T : List Nd) (hkd : ∀ d, d ∈ T → kindB d.kind = true) ar nr cr w1 (hb : Below w.heap.size w w1) (ht : TC w1 ar nr T) => rrefutes_c G a n c a' n' c' ar nr cr T w1 (h.mono hb) (h'.mono hb) ht hkd)
 have HWI := Lib.hid (fun (cc : Nat) (hc : cc < n') (hn : n' ≤ 256) w1 (hb : Below w.heap.size w w1) => with6_c a n c cells sum a' n' c' g cc number w1 (h'.mono hb) hc hn)
 have HFG := Lib.hid (fun (e : few6B 16 6 cells sum ls g = true) => And.intro (few_sys e) (few_good e))
 generalize few6B 16 6 cells sum ls g = fb at HFW HFG
 go_enter Tryz.func8, Tryz.ntmps8
 go_upto_region 2 with fail
 have fsz : ((w.alloc (.cells #[.int .i64 cells, .slice a n c, .int .i64 sum, .slice a' n' c'] 27)).alloc (.cells #[.int .i64 cells, .slice a n c, .int .i64 sum, .slice a' n' c'] 28)).heap.size = w.heap.size + 2 := by simp only [World.size_alloc] <;> omega
 have fB : Below w.heap.size w ((w.alloc (.cells #[.int .i64 cells, .slice a n c, .int .i64 sum, .slice a' n' c'] 27)).alloc (.cells #[.int .i64 cells, .slice a n c, .int .i64 sum, .slice a' n' c'] 28)) := ((Below.refl _ _).alloc (Nat.le_refl _) _).alloc (by simp only [World.size_alloc]; omega) _
 have fq0 : ((w.alloc (.cells #[.int .i64 cells, .slice a n c, .int .i64 sum, .slice a' n' c'] 27)).alloc (.cells #[.int .i64 cells, .slice a n c, .int .i64 sum, .slice a' n' c'] 28)).heap[w.heap.size]? = some (.cells #[.int .i64 cells, .slice a n c, .int .i64 sum, .slice a' n' c'] 27 (0, 0)) := by have h := World.alloc_heap_new w (.cells #[.int .i64 cells, .slice a n c, .int .i64 sum, .slice a' n' c'] 27); exact (Below.heap_alloc _ _ _ (by simp only [World.size_alloc]; omega)).trans (h)
 have fq1 : ((w.alloc (.cells #[.int .i64 cells, .slice a n c, .int .i64 sum, .slice a' n' c'] 27)).alloc (.cells #[.int .i64 cells, .slice a n c, .int .i64 sum, .slice a' n' c'] 28)).heap[w.heap.size + 1]? = some (.cells #[.int .i64 cells, .slice a n c, .int .i64 sum, .slice a' n' c'] 28 (0, 0)) := by have h := World.alloc_heap_new (w.alloc (.cells #[.int .i64 cells, .slice a n c, .int .i64 sum, .slice a' n' c'] 27)) (.cells #[.int .i64 cells, .slice a n c, .int .i64 sum, .slice a' n' c'] 28); simp only [World.size_alloc] at h; exact h
 generalize ((w.alloc (.cells #[.int .i64 cells, .slice a n c, .int .i64 sum, .slice a' n' c'] 27)).alloc (.cells #[.int .i64 cells, .slice a n c, .int .i64 sum, .slice a' n' c'] 28)) = W0 at fsz fB fq0 fq1 ⊢
 have HQ0 := Lib.hid fq0
 have HQ1 := Lib.hid fq1
 have x0 : W0.cell? ⟨w.heap.size + 1, 0, none⟩ = some (.int .i64 cells) := q_cell fq1 0
 have x1 : W0.cell? ⟨w.heap.size + 1, 1, none⟩ = some (.slice a n c) := q_cell fq1 1
 have x2 : W0.cell? ⟨w.heap.size + 1, 2, none⟩ = some (.int .i64 sum) := q_cell fq1 2
 have x3 : W0.cell? ⟨w.heap.size + 1, 3, none⟩ = some (.slice a' n' c') := q_cell fq1 3
 have xl := q_lt fq1
 have y0 : W0.cell? ⟨w.heap.size, 0, none⟩ = some (.int .i64 cells) := q_cell fq0 0
 have y1 : W0.cell? ⟨w.heap.size, 1, none⟩ = some (.slice a n c) := q_cell fq0 1
 have y2 : W0.cell? ⟨w.heap.size, 2, none⟩ = some (.int .i64 sum) := q_cell fq0 2
 have y3 : W0.cell? ⟨w.heap.size, 3, none⟩ = some (.slice a' n' c') := q_cell fq0 3
 have yl := q_lt fq0
 have hcur : Below W0.heap.size W0 W0 := Below.refl _ _
 clear fq0 fq1 fsz h h'
 cases fb with
 | false =>
  go_wp2_with (first | (go_at_call 32; refine (HFW.out _ (keep_trans fB hcur)).mono ?_; rintro _ w1 ⟨rfl, hb1⟩; replace hcur := keep_trans hcur hb1; replace x0 := q_cell (keepq hcur HQ1.out) 0; replace x1 := q_cell (keepq hcur HQ1.out) 1; replace x2 := q_cell (keepq hcur HQ1.out) 2; replace x3 := q_cell (keepq hcur HQ1.out) 3; replace y0 := q_cell (keepq hcur HQ0.out) 0; replace y1 := q_cell (keepq hcur HQ0.out) 1; replace y2 := q_cell (keepq hcur HQ0.out) 2; replace y3 := q_cell (keepq hcur HQ0.out) 3; replace xl := q_lt (keepq hcur HQ1.out); replace yl := q_lt (keepq hcur HQ0.out)) | (go_at_call 17; refine (HA.out _).mono ?_; rintro _ w1 ⟨rfl, hb1⟩; replace hcur := keep_trans hcur hb1))
  go_ret
  exact ⟨rfl, keep_trans fB hcur⟩
 | true =>
  obtain ⟨hsy, G, hop⟩ := HFG.out rfl
  have HG := Lib.hid G
  have hop6 : (openL g).length ≤ 6 := by omega
  have hc256 : n' ≤ 256 := by have := G.len; have := G.cells2; have := hgl.out; omega
  have hcn : Hid (cells = (n' : Int)) := by unfold Hid; have := G.len; have := hgl.out; omega
  have hse : smallErr cells ls sum g = 0 := by
   unfold smallErr
   rw [if_neg (by rw [(taskErr_good HG.out hsy)]; decide), decide_eq_false (by omega)]
   rfl
  have hce : compE cells ls sum g 3 = 0 := by
   unfold compE
   rw [hse, taskErr_good HG.out hsy]
   decide
  have hcl : compL cells ls sum g 3 = (solsL ls sum g []).take 3 := by
   unfold compL
   rw [hce, if_neg (by decide)]
   congr 1
  rw [hce, hcl] at HCO
  have hre : refuteE cells ls sum g = if (solsL ls sum g []).length = 0 then 0 else 22 := by
   unfold refuteE
   rw [hse, if_neg (by decide)]
  obtain ⟨L, hL⟩ : ∃ L, (solsL ls sum g []).take 3 = L := ⟨_, rfl⟩
  obtain ⟨hat, hlex⟩ := sols_at G hL
  have hL3 : L.length ≤ 3 := by rw [← hL, List.length_take]; omega
  rw [hL] at HCO
  have HAT := Lib.hid hat
  have HLEX := Lib.hid hlex
  clear hat hlex hce hcl hse HFG hop
  by_cases hs : (solsL ls sum g []).length = 0
  ·have hL0 : L.length = 0 := by rw [← hL, List.length_take]; omega
   have hE1 : refuteE cells ls sum g = 0 := by rw [hre, if_pos hs]
   obtain ⟨MT, hMT⟩ : ∃ MT, madeT ls sum ((openL g).length + 1) g = MT := ⟨_, rfl⟩
   obtain ⟨m1, m2, m3, m4⟩ := made_all G hop6 hs hMT
   have hT1 : refuteT cells ls sum ((openL g).length + 1) g = MT := by unfold refuteT; rw [if_pos hE1, hMT]
   have HRF := Lib.hid (HRF.out (fun _ => ⟨m1, by rw [hMT]; omega⟩))
   rw [hE1, hT1] at HRF
   have HRE := Lib.hid (HRE.out G MT (tree_kinds m3))
   have HTR := Lib.hid (HTR.out MT)
   rw [m4] at HRE
   have m5 : treeErr n' MT = 0 := by rw [← hgl.out]; exact m3
   rw [m5] at HTR
   have HNS := Lib.hid ((no_sols G).1 hs)
   clear m1 m3 m4 m5 hE1 hT1 hMT hs hre hL HAT HLEX G
   go_wp2_with (go_at_call 32; refine (HFW.out _ (keep_trans fB hcur)).mono ?_; rintro _ w1 ⟨rfl, hb1⟩; replace hcur := keep_trans hcur hb1; replace x0 := q_cell (keepq hcur HQ1.out) 0; replace x1 := q_cell (keepq hcur HQ1.out) 1; replace x2 := q_cell (keepq hcur HQ1.out) 2; replace x3 := q_cell (keepq hcur HQ1.out) 3; replace y0 := q_cell (keepq hcur HQ0.out) 0; replace y1 := q_cell (keepq hcur HQ0.out) 1; replace y2 := q_cell (keepq hcur HQ0.out) 2; replace y3 := q_cell (keepq hcur HQ0.out) 3; replace xl := q_lt (keepq hcur HQ1.out); replace yl := q_lt (keepq hcur HQ0.out))
   refine (HCO.out _ (keep_trans fB hcur)).mono ?_
   rintro _ w1 ⟨al, nl, cl, rfl, hLr, hcl, hb1⟩
   replace hcur := keep_trans hcur hb1
   have hLl := hLr.len
   rw [hL0] at hLl
   subst hLl
   clear hLr
   replace x0 := q_cell (keepq hcur HQ1.out) 0
   replace x1 := q_cell (keepq hcur HQ1.out) 1
   replace x2 := q_cell (keepq hcur HQ1.out) 2
   replace x3 := q_cell (keepq hcur HQ1.out) 3
   replace y0 := q_cell (keepq hcur HQ0.out) 0
   replace y1 := q_cell (keepq hcur HQ0.out) 1
   replace y2 := q_cell (keepq hcur HQ0.out) 2
   replace y3 := q_cell (keepq hcur HQ0.out) 3
   replace xl := q_lt (keepq hcur HQ1.out)
   replace yl := q_lt (keepq hcur HQ0.out)
   go_wp2_with fail
   refine (HRF.out _ (keep_trans fB hcur)).mono ?_
   rintro _ w1 ⟨ar, nr, cr, rfl, hT, hcr, hb1⟩
   replace hcur := keep_trans hcur hb1
   have hTl := hT.1.1
   have hnr : (nr : Int) ≤ 20000 := by omega
   replace x0 := q_cell (keepq hcur HQ1.out) 0
   replace x1 := q_cell (keepq hcur HQ1.out) 1
   replace x2 := q_cell (keepq hcur HQ1.out) 2
   replace x3 := q_cell (keepq hcur HQ1.out) 3
   replace y0 := q_cell (keepq hcur HQ0.out) 0
   replace y1 := q_cell (keepq hcur HQ0.out) 1
   replace y2 := q_cell (keepq hcur HQ0.out) 2
   replace y3 := q_cell (keepq hcur HQ0.out) 3
   replace xl := q_lt (keepq hcur HQ1.out)
   replace yl := q_lt (keepq hcur HQ0.out)
   go_wp2_with fail
   go_loopw [12, 13, 60] (fun _ _ iv wr => iv = .int .i64 0 ∧ wr = w1) (fun _ _ _ _ => 0)
   case atStart => exact ⟨rfl, rfl⟩
   case round =>
    obtain ⟨rfl, hwr⟩ := hrel
    subst hwr
    go_wp2_with (first | (go_at_call 20; refine (HTR.out _ _ _ _ hT).mono ?_; rintro _ w1 ⟨rfl, hb1⟩; replace hcur := keep_trans hcur hb1; replace hT := hT.mono hb1; replace x0 := q_cell (keepq hcur HQ1.out) 0; replace x1 := q_cell (keepq hcur HQ1.out) 1; replace x2 := q_cell (keepq hcur HQ1.out) 2; replace x3 := q_cell (keepq hcur HQ1.out) 3; replace y0 := q_cell (keepq hcur HQ0.out) 0; replace y1 := q_cell (keepq hcur HQ0.out) 1; replace y2 := q_cell (keepq hcur HQ0.out) 2; replace y3 := q_cell (keepq hcur HQ0.out) 3; replace xl := q_lt (keepq hcur HQ1.out); replace yl := q_lt (keepq hcur HQ0.out)))
    refine (HRE.out _ _ _ _ (keep_trans fB hcur) hT).mono ?_
    rintro _ w1 ⟨rfl, hb1⟩
    replace hcur := keep_trans hcur hb1
    clear hT
    replace x0 := q_cell (keepq hcur HQ1.out) 0
    replace x1 := q_cell (keepq hcur HQ1.out) 1
    replace x2 := q_cell (keepq hcur HQ1.out) 2
    replace x3 := q_cell (keepq hcur HQ1.out) 3
    replace y0 := q_cell (keepq hcur HQ0.out) 0
    replace y1 := q_cell (keepq hcur HQ0.out) 1
    replace y2 := q_cell (keepq hcur HQ0.out) 2
    replace y3 := q_cell (keepq hcur HQ0.out) 3
    replace xl := q_lt (keepq hcur HQ1.out)
    replace yl := q_lt (keepq hcur HQ0.out)
    go_upto_region 18 with fail
    have hcur18 := hcur
    by_cases k1 : cell < 0
    ·go_wp2_with (go_at_call 17; refine (HA.out _).mono ?_; rintro _ w1 ⟨rfl, hb1⟩; replace hcur := keep_trans hcur hb1)
     go_ret
     exact ⟨rfl, keep_trans fB hcur⟩
    ·by_cases k2 : cells ≤ cell
     ·go_wp2_with (go_at_call 17; refine (HA.out _).mono ?_; rintro _ w1 ⟨rfl, hb1⟩; replace hcur := keep_trans hcur hb1)
      go_ret
      exact ⟨rfl, keep_trans fB hcur⟩
     ·obtain ⟨cc, hcc⟩ : ∃ cc : Nat, cell = (cc : Int) := ⟨cell.toNat, by omega⟩
      have hccn : cc < n' := by have := hcn.out; omega
      have hcci : (cc : Int) < (n' : Int) := by omega
      have hcc0 : ¬ (cc : Int) < 0 := by omega
      have hccc : ¬ cells ≤ (cc : Int) := by omega
      obtain ⟨bg, og, rfl, hbg, hcg⟩ := (H'.out.mono (keep_trans fB hcur)).2 cc hccn
      subst hcc
      by_cases k3 : g[cc]?.getD 0 = 0
      ·have m3 : (g[cc]?.getD 0 != 0) = false := by simpa using k3
       by_cases k4 : number < 1
       ·go_wp2_with (go_at_call 17; refine (HA.out _).mono ?_; rintro _ w1 ⟨rfl, hb1⟩; replace hcur := keep_trans hcur hb1)
        go_ret
        exact ⟨rfl, keep_trans fB hcur⟩
       ·by_cases k5 : cells < number
        ·go_wp2_with (go_at_call 17; refine (HA.out _).mono ?_; rintro _ w1 ⟨rfl, hb1⟩; replace hcur := keep_trans hcur hb1)
         go_ret
         exact ⟨rfl, keep_trans fB hcur⟩
        ·have hG256 := hc256
         have hnum : 1 ≤ number ∧ number ≤ cells := by omega
         have HNUM := Lib.hid hnum
         have hccG : cc < g.length := by rw [hgl.out]; exact hccn
         have HPUT := Lib.hid (fun (hh : hasB g number = false) => (HG.out.put hccG (mem_unused.2 ⟨by omega, by have := HG.out.len; omega, hh⟩) : GoodTask cells ls sum (g.set cc number)))
         have HOP2 : Hid ((openL (g.set cc number)).length ≤ 5) := by unfold Hid; have := openL_set (g := g) (c := cc) (x := number) hccG k3 (by omega); omega
         have HNS2 : Hid (∀ f, ¬ SolF ls sum (g.set cc number) f) := fun f hf => HNS.out f (hf.less k3)
         have HWX := Lib.hid (HWI.out cc hccn hc256)
         have HSY := Lib.hid hsy
         clear hnum hccG HWI
         go_wp2_with fail
         go_loopw [15, 142] (fun _ iv wr => ∃ k : Nat, k ≤ n' ∧ iv = .int .i64 k ∧ Hid (∀ j, j < k → g[j]?.getD 0 ≠ number) ∧ wr = w1) (fun _ iv _ => n' - (intOf iv).toNat)
         case atStart => exact ⟨0, by omega, rfl, fun j hj => absurd hj (by omega), rfl⟩
         case round =>
          obtain ⟨k, hk, rfl, hno, hwr⟩ := hrel
          subst hwr
          by_cases hlt : k < n'
          ·obtain ⟨bk, ok, e2, hbk, hck⟩ := (H'.out.mono (keep_trans fB hcur)).2 k hlt
           cases e2
           have hki : (k : Int) < (n' : Int) := by omega
           obtain ⟨x, hx⟩ : ∃ x, g[k]?.getD 0 = x := ⟨_, rfl⟩
           have HX := Lib.hid hx
           rw [hx] at hck
           clear hx
           by_cases ex : x = number
           ·have mx : (x == number) = true := by simpa using ex
            go_wp2_with (go_at_call 17; refine (HA.out _).mono ?_; rintro _ w1 ⟨rfl, hb1⟩; replace hcur := keep_trans hcur hb1)
            go_ret
            exact ⟨rfl, keep_trans fB hcur⟩
           ·have mx : (x == number) = false := by simpa using ex
            have HXN : Hid (∀ j, j < k + 1 → g[j]?.getD 0 ≠ number) := fun j hj => by
             by_cases e : j = k
             ·rw [e, HX.out]; exact ex
             ·exact hno.out j (by omega)
            clear ex
            go_wp2_with fail
            go_roundw
            case rel => exact ⟨k + 1, by omega, by go_num, HXN.out, trivial⟩
            case measure => simp [intOf]; omega
          ·have e : k = n' := by omega
           subst e
           have hh : hasB g number = false := by
            rw [Bool.eq_false_iff]
            intro hb
            obtain ⟨j, hj, e⟩ := List.getElem_of_mem (hasB_iff.1 hb)
            exact hno.out j (by rw [← hgl.out]; exact hj) (by rw [List.getElem?_eq_getElem hj]; exact e)
           have hG2 := HPUT.out hh
           obtain ⟨g2, hg2⟩ : ∃ g2, g.set cc number = g2 := ⟨_, rfl⟩
           rw [hg2] at hG2 HOP2 HNS2 HWX
           have ht2 := taskErr_good hG2 HSY.out
           have hn2 := (no_sols hG2).2 HNS2.out
           obtain ⟨M2, hM2⟩ : ∃ M2, madeT ls sum ((openL g2).length + 1) g2 = M2 := ⟨_, rfl⟩
           have hop2 : (openL g2).length ≤ 6 := by have := HOP2.out; omega
           obtain ⟨p1, p2, p3, p4⟩ := made_all hG2 hop2 hn2 hM2
           have hs2 : smallErr cells ls sum g2 = 0 := by
            unfold smallErr
            rw [if_neg (by rw [ht2]; decide), decide_eq_false (by omega)]
            rfl
           have hr2 : refuteE cells ls sum g2 = 0 := by
            unfold refuteE
            rw [hs2, if_neg (by decide), if_pos hn2]
           have hrt2 : refuteT cells ls sum ((openL g2).length + 1) g2 = M2 := by unfold refuteT; rw [if_pos hr2, hM2]
           have hck2 : refErr cells ls sum g2 M2 = 0 := by
            unfold refErr
            rw [if_neg (by rw [ht2]; decide), p3, if_neg (by decide), p4]
            rfl
           have HR2 := Lib.hid (fun ag cg w1 (hb : Below w.heap.size w w1) (hi : IC w1 ag k g2) (hc : k ≤ cg) => refute_c a n c ls cells sum ag k cg g2 ((openL g2).length + 1) w1 (H.out.mono hb) hcap hi hc (fun _ => ⟨p1, by rw [hM2]; omega⟩))
           rw [hr2, hrt2] at HR2
           have HK2 := Lib.hid (fun ag cg ar nr cr w1 (hb : Below w.heap.size w w1) (hi : IC w1 ag k g2) (hc : k ≤ cg) (ht : TC w1 ar nr M2) => checkref_c a n c ls cells sum ag k cg g2 ar nr cr M2 w1 (H.out.mono hb) hcap hi hc ht)
           rw [hck2] at HK2
           clear hno hh hG2 hg2 ht2 hn2 hM2 hop2 p1 p2 p3 p4 hs2 hr2 hrt2 hck2 HPUT HOP2 HNS2
           go_wp2_with fail
           refine (HWX.out _ (keep_trans fB hcur)).mono ?_
           rintro _ w2 ⟨gb, cg, rfl, hi2, hcg2, _, hb1⟩
           replace hcur := keep_trans hcur hb1
           have hq3 : Below w2.heap.size w2 (w2.alloc (.cells #[.int .i64 cells, .slice a n c, .int .i64 sum, .slice (some ⟨gb, 0, none⟩) k cg] 27)) := (Below.refl _ _).alloc (Nat.le_refl _) _
           have q3 := World.alloc_heap_new w2 (.cells #[.int .i64 cells, .slice a n c, .int .i64 sum, .slice (some ⟨gb, 0, none⟩) k cg] 27)
           go_upto_region 27 with fail
           replace hcur := keep_trans hcur hq3
           replace hi2 := hi2.mono hq3
           clear hq3
           generalize (w2.alloc (.cells #[.int .i64 cells, .slice a n c, .int .i64 sum, .slice (some ⟨gb, 0, none⟩) k cg] 27)) = W3 at q3 hi2 hcur ⊢
           generalize w2.heap.size = b3 at q3 ⊢
           have Q3 := Lib.hid q3
           have z0 := q_cell q3 0
           have z1 := q_cell q3 1
           have z2 := q_cell q3 2
           have z3 := q_cell q3 3
           have zl := q_lt q3
           clear q3
           go_wp2_with fail
           refine (HR2.out _ _ _ (keep_trans fB hcur) hi2 hcg2).mono ?_
           rintro _ w4 ⟨ar2, nr2, cr2, rfl, hT2, hcr2, hb4⟩
           replace hcur := keep_trans hcur hb4
           replace hi2 := hi2.mono hb4
           have q4 := keepq hb4 Q3.out
           replace z0 := q_cell q4 0
           replace z1 := q_cell q4 1
           replace z2 := q_cell q4 2
           replace z3 := q_cell q4 3
           replace zl := q_lt q4
           clear q4
           go_wp2_with (first | (go_at_call 22; refine (HK2.out _ _ _ _ _ _ (keep_trans fB hcur) hi2 hcg2 hT2).mono ?_; rintro _ w5 ⟨rfl, hb5⟩; replace hcur := keep_trans hcur hb5) | (go_at_call 17; refine (HA.out _).mono ?_; rintro _ w1 ⟨rfl, hb1⟩; replace hcur := keep_trans hcur hb1))
           go_ret
           exact ⟨rfl, keep_trans fB hcur⟩
      ·have m3 : (g[cc]?.getD 0 != 0) = true := by simpa using k3
       go_wp2_with (go_at_call 17; refine (HA.out _).mono ?_; rintro _ w1 ⟨rfl, hb1⟩; replace hcur := keep_trans hcur hb1)
       go_ret
       exact ⟨rfl, keep_trans fB hcur⟩
  ·have hL1 : 0 < L.length := by rw [← hL, List.length_take]; omega
   have hE1 : refuteE cells ls sum g = 22 := by rw [hre, if_neg hs]
   have hT1 : refuteT cells ls sum ((openL g).length + 1) g = [] := by unfold refuteT; rw [hE1, if_neg (by decide)]
   have HRF := Lib.hid (HRF.out (fun e => by rw [hE1] at e; cases e))
   rw [hE1, hT1] at HRF
   have HLL := Lib.hid hL3
   have HL1 := Lib.hid hL1
   clear hE1 hT1 hs hre hL hL3 hL1 G
   go_wp2_with (go_at_call 32; refine (HFW.out _ (keep_trans fB hcur)).mono ?_; rintro _ w1 ⟨rfl, hb1⟩; replace hcur := keep_trans hcur hb1; replace x0 := q_cell (keepq hcur HQ1.out) 0; replace x1 := q_cell (keepq hcur HQ1.out) 1; replace x2 := q_cell (keepq hcur HQ1.out) 2; replace x3 := q_cell (keepq hcur HQ1.out) 3; replace y0 := q_cell (keepq hcur HQ0.out) 0; replace y1 := q_cell (keepq hcur HQ0.out) 1; replace y2 := q_cell (keepq hcur HQ0.out) 2; replace y3 := q_cell (keepq hcur HQ0.out) 3; replace xl := q_lt (keepq hcur HQ1.out); replace yl := q_lt (keepq hcur HQ0.out))
   refine (HCO.out _ (keep_trans fB hcur)).mono ?_
   rintro _ w1 ⟨al, nl, cl, rfl, hLr, hcl, hb1⟩
   replace hcur := keep_trans hcur hb1
   have hLl := Lib.hid hLr.len
   have hnl0 : 0 < (nl : Int) := by have := hLl.out; have := HL1.out; omega
   have hnl3 : ¬ 3 < (nl : Int) := by have := hLl.out; have := HLL.out; omega
   have hnle : ((nl : Int) == 0) = false := by rw [beq_eq_false_iff_ne]; omega
   replace x0 := q_cell (keepq hcur HQ1.out) 0
   replace x1 := q_cell (keepq hcur HQ1.out) 1
   replace x2 := q_cell (keepq hcur HQ1.out) 2
   replace x3 := q_cell (keepq hcur HQ1.out) 3
   replace y0 := q_cell (keepq hcur HQ0.out) 0
   replace y1 := q_cell (keepq hcur HQ0.out) 1
   replace y2 := q_cell (keepq hcur HQ0.out) 2
   replace y3 := q_cell (keepq hcur HQ0.out) 3
   replace xl := q_lt (keepq hcur HQ1.out)
   replace yl := q_lt (keepq hcur HQ0.out)
   go_wp2_with fail
   refine (HRF.out _ (keep_trans fB hcur)).mono ?_
   rintro _ w1 ⟨ar, nr, cr, rfl, hT, hcr, hb1⟩
   replace hcur := keep_trans hcur hb1
   replace hLr := hLr.mono hb1
   have HLR := Lib.hid hLr
   have HCUR := Lib.hid hcur
   clear hT hLr hcur
   have hds : decide (0 < (nl : Int)) = true := decide_eq_true hnl0
   go_wp2_with fail
   go_loopw [12, 13, 60] (fun _ _ iv wr => ∃ k : Nat, k ≤ nl ∧ iv = .int .i64 k ∧ Below w1.heap.size w1 wr) (fun _ _ iv _ => nl - (intOf iv).toNat)
   case atStart => exact ⟨0, by omega, rfl, Below.refl _ _⟩
   case round =>
    obtain ⟨k, hk, rfl, hbr⟩ := hrel
    have hcur := keep_trans HCUR.out hbr
    have x0 := q_cell (keepq hcur HQ1.out) 0
    have x1 := q_cell (keepq hcur HQ1.out) 1
    have x2 := q_cell (keepq hcur HQ1.out) 2
    have x3 := q_cell (keepq hcur HQ1.out) 3
    have y0 := q_cell (keepq hcur HQ0.out) 0
    have y1 := q_cell (keepq hcur HQ0.out) 1
    have y2 := q_cell (keepq hcur HQ0.out) 2
    have y3 := q_cell (keepq hcur HQ0.out) 3
    have xl := q_lt (keepq hcur HQ1.out)
    have yl := q_lt (keepq hcur HQ0.out)
    by_cases hlt : k < nl
    ·obtain ⟨b, off, af, nf, cf, rfl, hb, hc, hic, hfc⟩ := (HLR.out.mono hbr).2 k hlt
     obtain ⟨h1, h2, h3, h4⟩ := HAT.out k (by rw [hLl.out]; exact hlt)
     have hnf : nf = n' := by rw [← hgl.out, ← h1]; exact hic.len.symm
     subst hnf
     have HFI := Lib.hid (fun W (hb2 : Below wr.heap.size wr W) => cfill_c cells (.slice a n c) af nf cf _ W (hic.mono hb2))
     rw [h2] at HFI
     have HSO := Lib.hid (fun W (hb2 : Below wr.heap.size wr W) (hb3 : Below w.heap.size w W) => issol_c HG.out a n c a' nf c' af nf cf _ W (H.out.mono hb3) (H'.out.mono hb3) (hic.mono hb2) rfl (fun _ => h4))
     rw [h3] at HSO
     have hki : (k : Int) < (nl : Int) := by omega
     by_cases k0 : 0 < k
     ·obtain ⟨b2, off2, af2, nf2, cf2, e2, _, hc2, hic2, _⟩ := (HLR.out.mono hbr).2 (k - 1) (by omega)
      cases e2
      have HBE := Lib.hid (fun W (hb2 : Below wr.heap.size wr W) => before_c af2 af nf2 nf cf2 cf _ _ W (hic2.mono hb2) (hic.mono hb2))
      rw [HLEX.out k k0 (by rw [hLl.out]; exact hlt)] at HBE
      have k0i : (0 : Int) < (k : Int) := by omega
      have k1i : ((k : Int) - 1) = ((k - 1 : Nat) : Int) := by omega
      have k2i : ((k : Int) - 1).toNat = k - 1 := by omega
      have k3i : 0 ≤ (k : Int) - 1 := by omega
      have k4i : (k : Int) - 1 < (nl : Int) := by omega
      clear h1 h2 h3 h4 hic hic2
      have hbx := hbr
      have hby : Below wr.heap.size wr wr := Below.refl _ _
      go_wp2_with (first | (go_at_call 33; refine (HFI.out _ hby).mono ?_; rintro _ w2 ⟨rfl, hb1⟩; replace hcur := keep_trans hcur hb1; replace hbx := keep_trans hbx hb1; replace hby := keep_trans hby hb1; replace x0 := q_cell (keepq hcur HQ1.out) 0; replace x1 := q_cell (keepq hcur HQ1.out) 1; replace x2 := q_cell (keepq hcur HQ1.out) 2; replace x3 := q_cell (keepq hcur HQ1.out) 3; replace y0 := q_cell (keepq hcur HQ0.out) 0; replace y1 := q_cell (keepq hcur HQ0.out) 1; replace y2 := q_cell (keepq hcur HQ0.out) 2; replace y3 := q_cell (keepq hcur HQ0.out) 3; replace xl := q_lt (keepq hcur HQ1.out); replace yl := q_lt (keepq hcur HQ0.out)) | (go_at_call 34; refine (HSO.out _ hby (keep_trans fB hcur)).mono ?_; rintro _ w2 ⟨rfl, hb1⟩; replace hcur := keep_trans hcur hb1; replace hbx := keep_trans hbx hb1; replace hby := keep_trans hby hb1; have hc3 := ((bcell hby).1 _ (off + (k - 1)) hb).trans hc2) | (go_at_call 35; refine (HBE.out _ hby).mono ?_; rintro _ w2 ⟨rfl, hb1⟩; replace hbx := keep_trans hbx hb1))
      go_roundw
      case rel => exact ⟨k + 1, by omega, by go_num, hbx⟩
      case measure => simp [intOf]; omega
     ·have e0 : k = 0 := by omega
      subst e0
      rw [Nat.add_zero] at hc
      clear h1 h2 h3 h4 hic
      have hbx := hbr
      have hby : Below wr.heap.size wr wr := Below.refl _ _
      go_wp2_with (first | (go_at_call 33; refine (HFI.out _ hby).mono ?_; rintro _ w2 ⟨rfl, hb1⟩; replace hcur := keep_trans hcur hb1; replace hbx := keep_trans hbx hb1; replace hby := keep_trans hby hb1; replace x0 := q_cell (keepq hcur HQ1.out) 0; replace x1 := q_cell (keepq hcur HQ1.out) 1; replace x2 := q_cell (keepq hcur HQ1.out) 2; replace x3 := q_cell (keepq hcur HQ1.out) 3; replace y0 := q_cell (keepq hcur HQ0.out) 0; replace y1 := q_cell (keepq hcur HQ0.out) 1; replace y2 := q_cell (keepq hcur HQ0.out) 2; replace y3 := q_cell (keepq hcur HQ0.out) 3; replace xl := q_lt (keepq hcur HQ1.out); replace yl := q_lt (keepq hcur HQ0.out)) | (go_at_call 34; refine (HSO.out _ hby (keep_trans fB hcur)).mono ?_; rintro _ w2 ⟨rfl, hb1⟩; replace hbx := keep_trans hbx hb1))
      go_roundw
      case rel => exact ⟨0 + 1, by omega, by go_num, hbx⟩
      case measure => simp [intOf]; omega
    ·have e : k = nl := by omega
     subst e
     go_wp2_with (go_at_call 17; refine (HA.out _).mono ?_; rintro _ w1 ⟨rfl, hb1⟩; replace hcur := keep_trans hcur hb1)
     go_ret
     exact ⟨rfl, keep_trans fB hcur⟩
end
end Go.Proofs.YtcblpobiefmjmaaGreat
