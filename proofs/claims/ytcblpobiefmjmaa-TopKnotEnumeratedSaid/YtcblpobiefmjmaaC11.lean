/- Contracts: the program's check of a task. -/
import Derived.Test.YtcblpobiefmjmaaC10
namespace Go.Proofs.Ytcblpobiefmjmaa
open Go Go.RowKit
attribute [local go_sem] over_cell

set_option maxRecDepth 100000 in
set_option maxHeartbeats 8000000 in
theorem task_c (a : Option Addr) (n c : Nat) (ls : List (List Int)) (cells sum : Int) (a' : Option Addr) (n' c' : Nat) (g : List Int) (w : World) (h : RC w a n ls) (hcap : n ≤ c) (h' : IC w a' n' g) (hcap' : n' ≤ c') :
    Calls Try.prog 17 #[.agg #[.int .i64 cells, .slice a n c, .int .i64 sum, .slice a' n' c']] w fun e w' => e = .returned (.int .i64 (taskErr cells ls sum g)) ∧ Below w.heap.size w w' := by
  have hm := h.small
  have hm' := h'.small
  have hF0 := task_first (sysErr cells ls) sum cells n' ls g h'.len rfl
  by_cases hs1 : sum < 1
  · have ed : decide (sum < 1) = true := by simpa using hs1
    have hF : Hid (taskErr cells ls sum g = if firstL [sysErr cells ls, whenV true 3, whenV ((n' : Int) != cells) 2] ≠ 0 then firstL [sysErr cells ls, whenV true 3, whenV ((n' : Int) != cells) 2] else errs (givenBad cells g) n') := by
      rw [ed] at hF0; exact hF0
    clear hF0 hs1
    go_enter Try.func17, Try.ntmps17
    go_wp2
    have hsz : w.heap.size < (w.alloc (.cells #[.int .i64 cells, .slice a n c, .int .i64 sum, .slice a' n' c'] 27)).heap.size := by simp
    have hB : Below w.heap.size w (w.alloc (.cells #[.int .i64 cells, .slice a n c, .int .i64 sum, .slice a' n' c'] 27)) := (Below.refl _ _).alloc (Nat.le_refl _) _
    have x0 : (w.alloc (.cells #[.int .i64 cells, .slice a n c, .int .i64 sum, .slice a' n' c'] 27)).cell? ⟨w.heap.size, 0, none⟩ = some (.int .i64 cells) := (box_cells w #[.int .i64 cells, .slice a n c, .int .i64 sum, .slice a' n' c'] 27 0).trans rfl
    have x1 : (w.alloc (.cells #[.int .i64 cells, .slice a n c, .int .i64 sum, .slice a' n' c'] 27)).cell? ⟨w.heap.size, 1, none⟩ = some (.slice a n c) := (box_cells w #[.int .i64 cells, .slice a n c, .int .i64 sum, .slice a' n' c'] 27 1).trans rfl
    have x2 : (w.alloc (.cells #[.int .i64 cells, .slice a n c, .int .i64 sum, .slice a' n' c'] 27)).cell? ⟨w.heap.size, 2, none⟩ = some (.int .i64 sum) := (box_cells w #[.int .i64 cells, .slice a n c, .int .i64 sum, .slice a' n' c'] 27 2).trans rfl
    have x3 : (w.alloc (.cells #[.int .i64 cells, .slice a n c, .int .i64 sum, .slice a' n' c'] 27)).cell? ⟨w.heap.size, 3, none⟩ = some (.slice a' n' c') := (box_cells w #[.int .i64 cells, .slice a n c, .int .i64 sum, .slice a' n' c'] 27 3).trans rfl
    generalize (w.alloc (.cells #[.int .i64 cells, .slice a n c, .int .i64 sum, .slice a' n' c'] 27)) = W0 at hsz hB x0 x1 x2 x3 ⊢
    have h0 := h.mono hB
    have h0' := h'.mono hB
    refine wp_region_S (fun w' => ∃ u, w' = over (W0) u) [20, 19, 18, 17] [(0, 0), (0, 1), (0, 3), (0, 4), (0, 5), (0, 12), (0, 13), (0, 14), (0, 15), (0, 16), (1, 2), (0, 6), (0, 7), (0, 8), (0, 9), (0, 10), (1, 11), (2, 17), (2, 18), (2, 19), (2, 20)] (by kernel_rfl) (by kernel_rfl) (by exact ⟨_, below_over (by repeat (first | assumption | exact Below.refl _ _ | refine keep_drew ?_ | refine keep_alloc ?_ _ | refine keep_trans ?_ (by assumption)))⟩) ?_
    dsimp only [pickOps, nthOp]
    repeat (first | (refine wpS_skip rfl (fun K hK => ?_); go_big_quiet_op; refine hK _ ?_; clear hK K) | (refine wpS_quiet rfl rfl (fun K hK => ?_); go_big_quiet_op; refine hK _ ?_; clear hK K) | (refine wpS_loud ?_; go_wp2_with (first | (go_at_call 29; refine (sys_c _ _ _ _ _ _ (h0.mono (keep_drew (Below.refl _ _))) hcap).mono ?_; rintro e w1 ⟨rfl, hb1⟩) | (go_at_call 18; refine (when_c _ _ _).mono ?_; rintro e w2 ⟨rfl, rfl⟩) | (go_at_call 16; refine (first_c _ _ _ _ _ (IC.new3 _ _ _ _ _)).mono ?_; rintro e w2 ⟨rfl, rfl⟩)); refine ⟨?_, ?_⟩; focus (exact ⟨_, below_over (by repeat (first | assumption | exact Below.refl _ _ | refine keep_drew ?_ | refine keep_alloc ?_ _ | refine keep_trans ?_ (by assumption)))⟩)))
    refine wpS_late _ _ _ rfl ?_
    dsimp only [List.map]
    go_wp2_with (first | (go_at_call 29; refine (sys_c _ _ _ _ _ _ (h0.mono (keep_drew (Below.refl _ _))) hcap).mono ?_; rintro e w1 ⟨rfl, hb1⟩) | (go_at_call 18; refine (when_c _ _ _).mono ?_; rintro e w2 ⟨rfl, rfl⟩) | (go_at_call 16; refine (first_c _ _ _ _ _ (IC.new3 _ _ _ _ _)).mono ?_; rintro e w2 ⟨rfl, rfl⟩))
    refine NoPanic.normal ?_
    have hb2 : Below W0.heap.size W0 (w1.alloc (.cells #[.int .i64 (sysErr cells ls), .int .i64 (whenV true 3), .int .i64 (whenV ((n' : Int) != cells) 2)] 32)) := keep_alloc (keep_trans (keep_drew (Below.refl _ _)) hb1) _
    generalize (w1.alloc (.cells #[.int .i64 (sysErr cells ls), .int .i64 (whenV true 3), .int .i64 (whenV ((n' : Int) != cells) 2)] 32)) = w3 at hb2 ⊢
    clear hb1
    generalize firstL [sysErr cells ls, whenV true 3, whenV ((n' : Int) != cells) 2] = v at hF ⊢
    have hB3 : Below w.heap.size w w3 := hB.trans (hb2.mono (by omega))
    have h3' := h0'.mono hb2
    have hsz3 : w.heap.size < w3.heap.size := by have := hb2.size; omega
    have y0 := ((bcell hb2).1 _ _ hsz).trans x0
    have y3 := ((bcell hb2).1 _ _ hsz).trans x3
    clear x0 x1 x2 x3
    by_cases hv : v = 0
    case neg =>
      have hv' : (v != 0) = true := by simpa using hv
      have hV := Go.Lib.hid hv
      clear hv
      go_wp2
      go_ret
      exact ⟨ret_int (by rw [hF.out, if_pos hV.out]), hB3⟩
    have hv' : (v != 0) = false := by simpa using hv
    have hV := Go.Lib.hid hv
    clear hv
    go_wp2
    have Y0 := Go.Lib.hid y0
    have Y3 := Go.Lib.hid y3
    clear y0 y3
    go_loopw [5, 6, 7, 37] (fun _ _ _ i wr => ∃ k : Nat, k ≤ n' ∧ i = .int .i64 k ∧ Hid (∀ j, j < k → givenBad cells g j = 0) ∧ Below w3.heap.size w3 wr) (fun _ _ _ i _ => n' - (intOf i).toNat)
    case atStart => exact ⟨0, by omega, rfl, fun j hj => absurd hj (by omega), Below.refl _ _⟩
    case round =>
      obtain ⟨k, hk, rfl, hn, hbr⟩ := hrel
      have hszr : w.heap.size < wr.heap.size := by have := hbr.size; omega
      have z0 := ((bcell hbr).1 _ _ hsz3).trans Y0.out
      have z3 := ((bcell hbr).1 _ _ hsz3).trans Y3.out
      by_cases hlt : k < n'
      · obtain ⟨b, off, rfl, hb, hc⟩ := (h3'.mono hbr).2 k hlt
        have hli : (k : Int) < (n' : Int) := by omega
        have hl0 : (0 : Int) ≤ (k : Int) := by omega
        have hkc : k ≤ c' := by omega
        have hit := (h3'.mono hbr).take k hk
        have hG := Go.Lib.hid (given_first cells g k)
        by_cases g1 : g[k]?.getD 0 < 0
        · have e1 : decide (g[k]?.getD 0 < 0) = true := by simpa using g1
          have e2 : decide (0 < g[k]?.getD 0) = false := by simp; omega
          have hG2 : Hid (givenBad cells g k = firstL [whenV true 3, whenV false 9]) := by
            have := hG.out; rw [e1, e2] at this; exact this
          clear hG
          by_cases hq : firstL [whenV true 3, whenV false 9] = 0
          · have hq' : (firstL [whenV true 3, whenV false 9] != 0) = false := by simpa using hq
            have hQ := Go.Lib.hid hq
            clear hq
            go_wp2_with (first | (go_at_call 30; refine (contains_c _ _ _ _ _ _ hit).mono ?_; rintro e w2 ⟨rfl, rfl⟩) | (go_at_call 18; refine (when_c _ _ _).mono ?_; rintro e w2 ⟨rfl, rfl⟩) | (go_at_call 16; refine (first_c _ _ _ _ _ (IC.new2 _ _ _ _)).mono ?_; rintro e w2 ⟨rfl, rfl⟩))
            go_roundw
            case rel => exact ⟨k + 1, by omega, by go_num, upto_snoc hn.out (by rw [hG2.out]; exact hQ.out), keep_alloc hbr _⟩
            case measure => simp [intOf]; omega
          · have hq' : (firstL [whenV true 3, whenV false 9] != 0) = true := by simpa using hq
            have hQ := Go.Lib.hid hq
            clear hq
            go_wp2_with (first | (go_at_call 30; refine (contains_c _ _ _ _ _ _ hit).mono ?_; rintro e w2 ⟨rfl, rfl⟩) | (go_at_call 18; refine (when_c _ _ _).mono ?_; rintro e w2 ⟨rfl, rfl⟩) | (go_at_call 16; refine (first_c _ _ _ _ _ (IC.new2 _ _ _ _)).mono ?_; rintro e w2 ⟨rfl, rfl⟩))
            go_ret
            have h1 := errs_found hn.out hlt (by rw [hG2.out]; exact hQ.out)
            exact ⟨ret_int (by rw [hF.out, if_neg (by rw [hV.out]; simp), h1, hG2.out]), keep_alloc (hB3.trans (hbr.mono (by omega))) _⟩
        · have e1 : decide (g[k]?.getD 0 < 0) = false := by simpa using g1
          by_cases g2 : 0 < g[k]?.getD 0
          · have e2 : decide (0 < g[k]?.getD 0) = true := by simpa using g2
            have hG2 : Hid (givenBad cells g k = firstL [whenV (decide (cells < g[k]?.getD 0)) 3, whenV (hasB (g.take k) (g[k]?.getD 0)) 9]) := by
              have := hG.out; rw [e1, e2] at this; exact this
            clear hG
            by_cases hq : firstL [whenV (decide (cells < g[k]?.getD 0)) 3, whenV (hasB (g.take k) (g[k]?.getD 0)) 9] = 0
            · have hq' : (firstL [whenV (decide (cells < g[k]?.getD 0)) 3, whenV (hasB (g.take k) (g[k]?.getD 0)) 9] != 0) = false := by simpa using hq
              have hQ := Go.Lib.hid hq
              clear hq
              go_wp2_with (first | (go_at_call 30; refine (contains_c _ _ _ _ _ _ hit).mono ?_; rintro e w2 ⟨rfl, rfl⟩) | (go_at_call 18; refine (when_c _ _ _).mono ?_; rintro e w2 ⟨rfl, rfl⟩) | (go_at_call 16; refine (first_c _ _ _ _ _ (IC.new2 _ _ _ _)).mono ?_; rintro e w2 ⟨rfl, rfl⟩))
              go_roundw
              case rel => exact ⟨k + 1, by omega, by go_num, upto_snoc hn.out (by rw [hG2.out]; exact hQ.out), keep_alloc hbr _⟩
              case measure => simp [intOf]; omega
            · have hq' : (firstL [whenV (decide (cells < g[k]?.getD 0)) 3, whenV (hasB (g.take k) (g[k]?.getD 0)) 9] != 0) = true := by simpa using hq
              have hQ := Go.Lib.hid hq
              clear hq
              go_wp2_with (first | (go_at_call 30; refine (contains_c _ _ _ _ _ _ hit).mono ?_; rintro e w2 ⟨rfl, rfl⟩) | (go_at_call 18; refine (when_c _ _ _).mono ?_; rintro e w2 ⟨rfl, rfl⟩) | (go_at_call 16; refine (first_c _ _ _ _ _ (IC.new2 _ _ _ _)).mono ?_; rintro e w2 ⟨rfl, rfl⟩))
              go_ret
              have h1 := errs_found hn.out hlt (by rw [hG2.out]; exact hQ.out)
              exact ⟨ret_int (by rw [hF.out, if_neg (by rw [hV.out]; simp), h1, hG2.out]), keep_alloc (hB3.trans (hbr.mono (by omega))) _⟩
          · have e2 : decide (0 < g[k]?.getD 0) = false := by simpa using g2
            have hG2 : Hid (givenBad cells g k = firstL [whenV (decide (cells < g[k]?.getD 0)) 3, whenV false 9]) := by
              have := hG.out; rw [e1, e2] at this; exact this
            clear hG
            by_cases hq : firstL [whenV (decide (cells < g[k]?.getD 0)) 3, whenV false 9] = 0
            · have hq' : (firstL [whenV (decide (cells < g[k]?.getD 0)) 3, whenV false 9] != 0) = false := by simpa using hq
              have hQ := Go.Lib.hid hq
              clear hq
              go_wp2_with (first | (go_at_call 30; refine (contains_c _ _ _ _ _ _ hit).mono ?_; rintro e w2 ⟨rfl, rfl⟩) | (go_at_call 18; refine (when_c _ _ _).mono ?_; rintro e w2 ⟨rfl, rfl⟩) | (go_at_call 16; refine (first_c _ _ _ _ _ (IC.new2 _ _ _ _)).mono ?_; rintro e w2 ⟨rfl, rfl⟩))
              go_roundw
              case rel => exact ⟨k + 1, by omega, by go_num, upto_snoc hn.out (by rw [hG2.out]; exact hQ.out), keep_alloc hbr _⟩
              case measure => simp [intOf]; omega
            · have hq' : (firstL [whenV (decide (cells < g[k]?.getD 0)) 3, whenV false 9] != 0) = true := by simpa using hq
              have hQ := Go.Lib.hid hq
              clear hq
              go_wp2_with (first | (go_at_call 30; refine (contains_c _ _ _ _ _ _ hit).mono ?_; rintro e w2 ⟨rfl, rfl⟩) | (go_at_call 18; refine (when_c _ _ _).mono ?_; rintro e w2 ⟨rfl, rfl⟩) | (go_at_call 16; refine (first_c _ _ _ _ _ (IC.new2 _ _ _ _)).mono ?_; rintro e w2 ⟨rfl, rfl⟩))
              go_ret
              have h1 := errs_found hn.out hlt (by rw [hG2.out]; exact hQ.out)
              exact ⟨ret_int (by rw [hF.out, if_neg (by rw [hV.out]; simp), h1, hG2.out]), keep_alloc (hB3.trans (hbr.mono (by omega))) _⟩
      · have e : k = n' := by omega
        subst e
        go_wp2
        go_ret
        exact ⟨ret_int (by rw [hF.out, if_neg (by rw [hV.out]; simp), errs_none hn.out]), hB3.trans (hbr.mono (by omega))⟩
  · have ed : decide (sum < 1) = false := by simpa using hs1
    have hF : Hid (taskErr cells ls sum g = if firstL [sysErr cells ls, whenV (decide (999999999 < sum)) 3, whenV ((n' : Int) != cells) 2] ≠ 0 then firstL [sysErr cells ls, whenV (decide (999999999 < sum)) 3, whenV ((n' : Int) != cells) 2] else errs (givenBad cells g) n') := by
      rw [ed] at hF0; exact hF0
    clear hF0 hs1
    go_enter Try.func17, Try.ntmps17
    go_wp2
    have hsz : w.heap.size < (w.alloc (.cells #[.int .i64 cells, .slice a n c, .int .i64 sum, .slice a' n' c'] 27)).heap.size := by simp
    have hB : Below w.heap.size w (w.alloc (.cells #[.int .i64 cells, .slice a n c, .int .i64 sum, .slice a' n' c'] 27)) := (Below.refl _ _).alloc (Nat.le_refl _) _
    have x0 : (w.alloc (.cells #[.int .i64 cells, .slice a n c, .int .i64 sum, .slice a' n' c'] 27)).cell? ⟨w.heap.size, 0, none⟩ = some (.int .i64 cells) := (box_cells w #[.int .i64 cells, .slice a n c, .int .i64 sum, .slice a' n' c'] 27 0).trans rfl
    have x1 : (w.alloc (.cells #[.int .i64 cells, .slice a n c, .int .i64 sum, .slice a' n' c'] 27)).cell? ⟨w.heap.size, 1, none⟩ = some (.slice a n c) := (box_cells w #[.int .i64 cells, .slice a n c, .int .i64 sum, .slice a' n' c'] 27 1).trans rfl
    have x2 : (w.alloc (.cells #[.int .i64 cells, .slice a n c, .int .i64 sum, .slice a' n' c'] 27)).cell? ⟨w.heap.size, 2, none⟩ = some (.int .i64 sum) := (box_cells w #[.int .i64 cells, .slice a n c, .int .i64 sum, .slice a' n' c'] 27 2).trans rfl
    have x3 : (w.alloc (.cells #[.int .i64 cells, .slice a n c, .int .i64 sum, .slice a' n' c'] 27)).cell? ⟨w.heap.size, 3, none⟩ = some (.slice a' n' c') := (box_cells w #[.int .i64 cells, .slice a n c, .int .i64 sum, .slice a' n' c'] 27 3).trans rfl
    generalize (w.alloc (.cells #[.int .i64 cells, .slice a n c, .int .i64 sum, .slice a' n' c'] 27)) = W0 at hsz hB x0 x1 x2 x3 ⊢
    have h0 := h.mono hB
    have h0' := h'.mono hB
    refine wp_region_S (fun w' => ∃ u, w' = over (W0) u) [20, 19, 18, 17] [(0, 0), (0, 1), (0, 3), (0, 4), (0, 5), (0, 12), (0, 13), (0, 14), (0, 15), (0, 16), (1, 2), (0, 6), (0, 7), (0, 8), (0, 9), (0, 10), (1, 11), (2, 17), (2, 18), (2, 19), (2, 20)] (by kernel_rfl) (by kernel_rfl) (by exact ⟨_, below_over (by repeat (first | assumption | exact Below.refl _ _ | refine keep_drew ?_ | refine keep_alloc ?_ _ | refine keep_trans ?_ (by assumption)))⟩) ?_
    dsimp only [pickOps, nthOp]
    repeat (first | (refine wpS_skip rfl (fun K hK => ?_); go_big_quiet_op; refine hK _ ?_; clear hK K) | (refine wpS_quiet rfl rfl (fun K hK => ?_); go_big_quiet_op; refine hK _ ?_; clear hK K) | (refine wpS_loud ?_; go_wp2_with (first | (go_at_call 29; refine (sys_c _ _ _ _ _ _ (h0.mono (keep_drew (Below.refl _ _))) hcap).mono ?_; rintro e w1 ⟨rfl, hb1⟩) | (go_at_call 18; refine (when_c _ _ _).mono ?_; rintro e w2 ⟨rfl, rfl⟩) | (go_at_call 16; refine (first_c _ _ _ _ _ (IC.new3 _ _ _ _ _)).mono ?_; rintro e w2 ⟨rfl, rfl⟩)); refine ⟨?_, ?_⟩; focus (exact ⟨_, below_over (by repeat (first | assumption | exact Below.refl _ _ | refine keep_drew ?_ | refine keep_alloc ?_ _ | refine keep_trans ?_ (by assumption)))⟩)))
    refine wpS_late _ _ _ rfl ?_
    dsimp only [List.map]
    go_wp2_with (first | (go_at_call 29; refine (sys_c _ _ _ _ _ _ (h0.mono (keep_drew (Below.refl _ _))) hcap).mono ?_; rintro e w1 ⟨rfl, hb1⟩) | (go_at_call 18; refine (when_c _ _ _).mono ?_; rintro e w2 ⟨rfl, rfl⟩) | (go_at_call 16; refine (first_c _ _ _ _ _ (IC.new3 _ _ _ _ _)).mono ?_; rintro e w2 ⟨rfl, rfl⟩))
    refine NoPanic.normal ?_
    have hb2 : Below W0.heap.size W0 (w1.alloc (.cells #[.int .i64 (sysErr cells ls), .int .i64 (whenV (decide (999999999 < sum)) 3), .int .i64 (whenV ((n' : Int) != cells) 2)] 32)) := keep_alloc (keep_trans (keep_drew (Below.refl _ _)) hb1) _
    generalize (w1.alloc (.cells #[.int .i64 (sysErr cells ls), .int .i64 (whenV (decide (999999999 < sum)) 3), .int .i64 (whenV ((n' : Int) != cells) 2)] 32)) = w3 at hb2 ⊢
    clear hb1
    generalize firstL [sysErr cells ls, whenV (decide (999999999 < sum)) 3, whenV ((n' : Int) != cells) 2] = v at hF ⊢
    have hB3 : Below w.heap.size w w3 := hB.trans (hb2.mono (by omega))
    have h3' := h0'.mono hb2
    have hsz3 : w.heap.size < w3.heap.size := by have := hb2.size; omega
    have y0 := ((bcell hb2).1 _ _ hsz).trans x0
    have y3 := ((bcell hb2).1 _ _ hsz).trans x3
    clear x0 x1 x2 x3
    by_cases hv : v = 0
    case neg =>
      have hv' : (v != 0) = true := by simpa using hv
      have hV := Go.Lib.hid hv
      clear hv
      go_wp2
      go_ret
      exact ⟨ret_int (by rw [hF.out, if_pos hV.out]), hB3⟩
    have hv' : (v != 0) = false := by simpa using hv
    have hV := Go.Lib.hid hv
    clear hv
    go_wp2
    have Y0 := Go.Lib.hid y0
    have Y3 := Go.Lib.hid y3
    clear y0 y3
    go_loopw [5, 6, 7, 37] (fun _ _ _ i wr => ∃ k : Nat, k ≤ n' ∧ i = .int .i64 k ∧ Hid (∀ j, j < k → givenBad cells g j = 0) ∧ Below w3.heap.size w3 wr) (fun _ _ _ i _ => n' - (intOf i).toNat)
    case atStart => exact ⟨0, by omega, rfl, fun j hj => absurd hj (by omega), Below.refl _ _⟩
    case round =>
      obtain ⟨k, hk, rfl, hn, hbr⟩ := hrel
      have hszr : w.heap.size < wr.heap.size := by have := hbr.size; omega
      have z0 := ((bcell hbr).1 _ _ hsz3).trans Y0.out
      have z3 := ((bcell hbr).1 _ _ hsz3).trans Y3.out
      by_cases hlt : k < n'
      · obtain ⟨b, off, rfl, hb, hc⟩ := (h3'.mono hbr).2 k hlt
        have hli : (k : Int) < (n' : Int) := by omega
        have hl0 : (0 : Int) ≤ (k : Int) := by omega
        have hkc : k ≤ c' := by omega
        have hit := (h3'.mono hbr).take k hk
        have hG := Go.Lib.hid (given_first cells g k)
        by_cases g1 : g[k]?.getD 0 < 0
        · have e1 : decide (g[k]?.getD 0 < 0) = true := by simpa using g1
          have e2 : decide (0 < g[k]?.getD 0) = false := by simp; omega
          have hG2 : Hid (givenBad cells g k = firstL [whenV true 3, whenV false 9]) := by
            have := hG.out; rw [e1, e2] at this; exact this
          clear hG
          by_cases hq : firstL [whenV true 3, whenV false 9] = 0
          · have hq' : (firstL [whenV true 3, whenV false 9] != 0) = false := by simpa using hq
            have hQ := Go.Lib.hid hq
            clear hq
            go_wp2_with (first | (go_at_call 30; refine (contains_c _ _ _ _ _ _ hit).mono ?_; rintro e w2 ⟨rfl, rfl⟩) | (go_at_call 18; refine (when_c _ _ _).mono ?_; rintro e w2 ⟨rfl, rfl⟩) | (go_at_call 16; refine (first_c _ _ _ _ _ (IC.new2 _ _ _ _)).mono ?_; rintro e w2 ⟨rfl, rfl⟩))
            go_roundw
            case rel => exact ⟨k + 1, by omega, by go_num, upto_snoc hn.out (by rw [hG2.out]; exact hQ.out), keep_alloc hbr _⟩
            case measure => simp [intOf]; omega
          · have hq' : (firstL [whenV true 3, whenV false 9] != 0) = true := by simpa using hq
            have hQ := Go.Lib.hid hq
            clear hq
            go_wp2_with (first | (go_at_call 30; refine (contains_c _ _ _ _ _ _ hit).mono ?_; rintro e w2 ⟨rfl, rfl⟩) | (go_at_call 18; refine (when_c _ _ _).mono ?_; rintro e w2 ⟨rfl, rfl⟩) | (go_at_call 16; refine (first_c _ _ _ _ _ (IC.new2 _ _ _ _)).mono ?_; rintro e w2 ⟨rfl, rfl⟩))
            go_ret
            have h1 := errs_found hn.out hlt (by rw [hG2.out]; exact hQ.out)
            exact ⟨ret_int (by rw [hF.out, if_neg (by rw [hV.out]; simp), h1, hG2.out]), keep_alloc (hB3.trans (hbr.mono (by omega))) _⟩
        · have e1 : decide (g[k]?.getD 0 < 0) = false := by simpa using g1
          by_cases g2 : 0 < g[k]?.getD 0
          · have e2 : decide (0 < g[k]?.getD 0) = true := by simpa using g2
            have hG2 : Hid (givenBad cells g k = firstL [whenV (decide (cells < g[k]?.getD 0)) 3, whenV (hasB (g.take k) (g[k]?.getD 0)) 9]) := by
              have := hG.out; rw [e1, e2] at this; exact this
            clear hG
            by_cases hq : firstL [whenV (decide (cells < g[k]?.getD 0)) 3, whenV (hasB (g.take k) (g[k]?.getD 0)) 9] = 0
            · have hq' : (firstL [whenV (decide (cells < g[k]?.getD 0)) 3, whenV (hasB (g.take k) (g[k]?.getD 0)) 9] != 0) = false := by simpa using hq
              have hQ := Go.Lib.hid hq
              clear hq
              go_wp2_with (first | (go_at_call 30; refine (contains_c _ _ _ _ _ _ hit).mono ?_; rintro e w2 ⟨rfl, rfl⟩) | (go_at_call 18; refine (when_c _ _ _).mono ?_; rintro e w2 ⟨rfl, rfl⟩) | (go_at_call 16; refine (first_c _ _ _ _ _ (IC.new2 _ _ _ _)).mono ?_; rintro e w2 ⟨rfl, rfl⟩))
              go_roundw
              case rel => exact ⟨k + 1, by omega, by go_num, upto_snoc hn.out (by rw [hG2.out]; exact hQ.out), keep_alloc hbr _⟩
              case measure => simp [intOf]; omega
            · have hq' : (firstL [whenV (decide (cells < g[k]?.getD 0)) 3, whenV (hasB (g.take k) (g[k]?.getD 0)) 9] != 0) = true := by simpa using hq
              have hQ := Go.Lib.hid hq
              clear hq
              go_wp2_with (first | (go_at_call 30; refine (contains_c _ _ _ _ _ _ hit).mono ?_; rintro e w2 ⟨rfl, rfl⟩) | (go_at_call 18; refine (when_c _ _ _).mono ?_; rintro e w2 ⟨rfl, rfl⟩) | (go_at_call 16; refine (first_c _ _ _ _ _ (IC.new2 _ _ _ _)).mono ?_; rintro e w2 ⟨rfl, rfl⟩))
              go_ret
              have h1 := errs_found hn.out hlt (by rw [hG2.out]; exact hQ.out)
              exact ⟨ret_int (by rw [hF.out, if_neg (by rw [hV.out]; simp), h1, hG2.out]), keep_alloc (hB3.trans (hbr.mono (by omega))) _⟩
          · have e2 : decide (0 < g[k]?.getD 0) = false := by simpa using g2
            have hG2 : Hid (givenBad cells g k = firstL [whenV (decide (cells < g[k]?.getD 0)) 3, whenV false 9]) := by
              have := hG.out; rw [e1, e2] at this; exact this
            clear hG
            by_cases hq : firstL [whenV (decide (cells < g[k]?.getD 0)) 3, whenV false 9] = 0
            · have hq' : (firstL [whenV (decide (cells < g[k]?.getD 0)) 3, whenV false 9] != 0) = false := by simpa using hq
              have hQ := Go.Lib.hid hq
              clear hq
              go_wp2_with (first | (go_at_call 30; refine (contains_c _ _ _ _ _ _ hit).mono ?_; rintro e w2 ⟨rfl, rfl⟩) | (go_at_call 18; refine (when_c _ _ _).mono ?_; rintro e w2 ⟨rfl, rfl⟩) | (go_at_call 16; refine (first_c _ _ _ _ _ (IC.new2 _ _ _ _)).mono ?_; rintro e w2 ⟨rfl, rfl⟩))
              go_roundw
              case rel => exact ⟨k + 1, by omega, by go_num, upto_snoc hn.out (by rw [hG2.out]; exact hQ.out), keep_alloc hbr _⟩
              case measure => simp [intOf]; omega
            · have hq' : (firstL [whenV (decide (cells < g[k]?.getD 0)) 3, whenV false 9] != 0) = true := by simpa using hq
              have hQ := Go.Lib.hid hq
              clear hq
              go_wp2_with (first | (go_at_call 30; refine (contains_c _ _ _ _ _ _ hit).mono ?_; rintro e w2 ⟨rfl, rfl⟩) | (go_at_call 18; refine (when_c _ _ _).mono ?_; rintro e w2 ⟨rfl, rfl⟩) | (go_at_call 16; refine (first_c _ _ _ _ _ (IC.new2 _ _ _ _)).mono ?_; rintro e w2 ⟨rfl, rfl⟩))
              go_ret
              have h1 := errs_found hn.out hlt (by rw [hG2.out]; exact hQ.out)
              exact ⟨ret_int (by rw [hF.out, if_neg (by rw [hV.out]; simp), h1, hG2.out]), keep_alloc (hB3.trans (hbr.mono (by omega))) _⟩
      · have e : k = n' := by omega
        subst e
        go_wp2
        go_ret
        exact ⟨ret_int (by rw [hF.out, if_neg (by rw [hV.out]; simp), errs_none hn.out]), hB3.trans (hbr.mono (by omega))⟩

end Go.Proofs.Ytcblpobiefmjmaa
