/- Contracts: the reference's check of a task, and its open cells. -/
import Derived.Test.YtcblpobiefmjmaaC2
namespace Go.Proofs.Ytcblpobiefmjmaa
open Go Go.RowKit
attribute [local go_sem] over_cell

theorem givenBad_lo {cells : Int} {g : List Int} {k : Nat} (h : g[k]?.getD 0 < 0) : givenBad cells g k = 3 := by unfold givenBad; rw [if_pos (.inl h)]
theorem givenBad_hi {cells : Int} {g : List Int} {k : Nat} (h : cells < g[k]?.getD 0) : givenBad cells g k = 3 := by unfold givenBad; rw [if_pos (.inr h)]
theorem givenBad_tw {cells : Int} {g : List Int} {k : Nat} (h1 : ¬ cells < g[k]?.getD 0) (hk : 0 < g[k]?.getD 0) (h : hasB (g.take k) (g[k]?.getD 0) = true) : givenBad cells g k = 9 := by
  unfold givenBad; rw [if_neg (by omega), if_pos ⟨hk, h⟩]
theorem givenBad_ok {cells : Int} {g : List Int} {k : Nat} (h0 : ¬ g[k]?.getD 0 < 0) (h1 : ¬ cells < g[k]?.getD 0) (h : ¬ 0 < g[k]?.getD 0 ∨ hasB (g.take k) (g[k]?.getD 0) = false) : givenBad cells g k = 0 := by
  unfold givenBad; rw [if_neg (by omega), if_neg]
  rintro ⟨a, b⟩
  rcases h with h | h
  · exact h a
  · rw [h] at b; simp at b

set_option maxHeartbeats 2000000 in
theorem rtask_c (a : Option Addr) (n c : Nat) (ls : List (List Int)) (cells sum : Int) (a' : Option Addr) (n' c' : Nat) (g : List Int) (w : World) (h : RC w a n ls) (hcap : n ≤ c) (h' : IC w a' n' g) (hcap' : n' ≤ c') :
    Calls Try.prog 12 #[.agg #[.int .i64 cells, .slice a n c, .int .i64 sum, .slice a' n' c']] w fun e w' => e = .returned (.int .i64 (taskErr cells ls sum g)) ∧ Below w.heap.size w w' := by
  have hm := h.small
  have hm' := h'.small
  by_cases h1 : sysErr cells ls = 0
  case neg =>
    have hf : Hid (taskErr cells ls sum g = sysErr cells ls) := by unfold Hid taskErr; rw [if_pos h1]
    have hd : (sysErr cells ls != 0) = true := by simpa using h1
    have h0 := Go.Lib.hid h1; clear h1
    go_enter Try.func12, Try.ntmps12
    go_wp2_with fail
    have hsz : w.heap.size < (w.alloc (.cells #[.int .i64 cells, .slice a n c, .int .i64 sum, .slice a' n' c'] 28)).heap.size := by simp
    have hB : Below w.heap.size w (w.alloc (.cells #[.int .i64 cells, .slice a n c, .int .i64 sum, .slice a' n' c'] 28)) := (Below.refl _ _).alloc (Nat.le_refl _) _
    have x0 : (w.alloc (.cells #[.int .i64 cells, .slice a n c, .int .i64 sum, .slice a' n' c'] 28)).cell? ⟨w.heap.size, 0, none⟩ = some (.int .i64 cells) := (box_cells w #[.int .i64 cells, .slice a n c, .int .i64 sum, .slice a' n' c'] 28 0).trans rfl
    have x1 : (w.alloc (.cells #[.int .i64 cells, .slice a n c, .int .i64 sum, .slice a' n' c'] 28)).cell? ⟨w.heap.size, 1, none⟩ = some (.slice a n c) := (box_cells w #[.int .i64 cells, .slice a n c, .int .i64 sum, .slice a' n' c'] 28 1).trans rfl
    have x2 : (w.alloc (.cells #[.int .i64 cells, .slice a n c, .int .i64 sum, .slice a' n' c'] 28)).cell? ⟨w.heap.size, 2, none⟩ = some (.int .i64 sum) := (box_cells w #[.int .i64 cells, .slice a n c, .int .i64 sum, .slice a' n' c'] 28 2).trans rfl
    have x3 : (w.alloc (.cells #[.int .i64 cells, .slice a n c, .int .i64 sum, .slice a' n' c'] 28)).cell? ⟨w.heap.size, 3, none⟩ = some (.slice a' n' c') := (box_cells w #[.int .i64 cells, .slice a n c, .int .i64 sum, .slice a' n' c'] 28 3).trans rfl
    generalize (w.alloc (.cells #[.int .i64 cells, .slice a n c, .int .i64 sum, .slice a' n' c'] 28)) = W0 at hsz hB x0 x1 x2 x3 ⊢
    refine (sys2_c _ _ _ _ _ _ (h.mono hB) hcap).mono ?_
    rintro e w1 ⟨rfl, hb1⟩
    go_wp2
    go_ret
    exact ⟨ret_int hf.out.symm, hB.trans (hb1.mono (by omega))⟩
  have hd0 : (sysErr cells ls != 0) = false := by simpa using h1
  have H1 := Go.Lib.hid h1; clear h1
  by_cases h2 : sum < 1
  · have hf : Hid (taskErr cells ls sum g = 3) := by unfold Hid taskErr; rw [if_neg (by rw [H1.out]; omega), if_pos (.inl h2)]
    have hd : decide (sum < 1) = true := by simpa using h2
    go_enter Try.func12, Try.ntmps12
    go_wp2_with fail
    have hsz : w.heap.size < (w.alloc (.cells #[.int .i64 cells, .slice a n c, .int .i64 sum, .slice a' n' c'] 28)).heap.size := by simp
    have hB : Below w.heap.size w (w.alloc (.cells #[.int .i64 cells, .slice a n c, .int .i64 sum, .slice a' n' c'] 28)) := (Below.refl _ _).alloc (Nat.le_refl _) _
    have x0 : (w.alloc (.cells #[.int .i64 cells, .slice a n c, .int .i64 sum, .slice a' n' c'] 28)).cell? ⟨w.heap.size, 0, none⟩ = some (.int .i64 cells) := (box_cells w #[.int .i64 cells, .slice a n c, .int .i64 sum, .slice a' n' c'] 28 0).trans rfl
    have x1 : (w.alloc (.cells #[.int .i64 cells, .slice a n c, .int .i64 sum, .slice a' n' c'] 28)).cell? ⟨w.heap.size, 1, none⟩ = some (.slice a n c) := (box_cells w #[.int .i64 cells, .slice a n c, .int .i64 sum, .slice a' n' c'] 28 1).trans rfl
    have x2 : (w.alloc (.cells #[.int .i64 cells, .slice a n c, .int .i64 sum, .slice a' n' c'] 28)).cell? ⟨w.heap.size, 2, none⟩ = some (.int .i64 sum) := (box_cells w #[.int .i64 cells, .slice a n c, .int .i64 sum, .slice a' n' c'] 28 2).trans rfl
    have x3 : (w.alloc (.cells #[.int .i64 cells, .slice a n c, .int .i64 sum, .slice a' n' c'] 28)).cell? ⟨w.heap.size, 3, none⟩ = some (.slice a' n' c') := (box_cells w #[.int .i64 cells, .slice a n c, .int .i64 sum, .slice a' n' c'] 28 3).trans rfl
    generalize (w.alloc (.cells #[.int .i64 cells, .slice a n c, .int .i64 sum, .slice a' n' c'] 28)) = W0 at hsz hB x0 x1 x2 x3 ⊢
    refine (sys2_c _ _ _ _ _ _ (h.mono hB) hcap).mono ?_
    rintro e w1 ⟨rfl, hb1⟩
    have y2 := ((bcell hb1).1 _ _ hsz).trans x2
    go_wp2
    go_ret
    exact ⟨ret_int hf.out.symm, hB.trans (hb1.mono (by omega))⟩
  have e2 : decide (sum < 1) = false := by simpa using h2
  by_cases h3 : 999999999 < sum
  · have hf : Hid (taskErr cells ls sum g = 3) := by unfold Hid taskErr; rw [if_neg (by rw [H1.out]; omega), if_pos (.inr h3)]
    have hd : decide (999999999 < sum) = true := by simpa using h3
    go_enter Try.func12, Try.ntmps12
    go_wp2_with fail
    have hsz : w.heap.size < (w.alloc (.cells #[.int .i64 cells, .slice a n c, .int .i64 sum, .slice a' n' c'] 28)).heap.size := by simp
    have hB : Below w.heap.size w (w.alloc (.cells #[.int .i64 cells, .slice a n c, .int .i64 sum, .slice a' n' c'] 28)) := (Below.refl _ _).alloc (Nat.le_refl _) _
    have x0 : (w.alloc (.cells #[.int .i64 cells, .slice a n c, .int .i64 sum, .slice a' n' c'] 28)).cell? ⟨w.heap.size, 0, none⟩ = some (.int .i64 cells) := (box_cells w #[.int .i64 cells, .slice a n c, .int .i64 sum, .slice a' n' c'] 28 0).trans rfl
    have x1 : (w.alloc (.cells #[.int .i64 cells, .slice a n c, .int .i64 sum, .slice a' n' c'] 28)).cell? ⟨w.heap.size, 1, none⟩ = some (.slice a n c) := (box_cells w #[.int .i64 cells, .slice a n c, .int .i64 sum, .slice a' n' c'] 28 1).trans rfl
    have x2 : (w.alloc (.cells #[.int .i64 cells, .slice a n c, .int .i64 sum, .slice a' n' c'] 28)).cell? ⟨w.heap.size, 2, none⟩ = some (.int .i64 sum) := (box_cells w #[.int .i64 cells, .slice a n c, .int .i64 sum, .slice a' n' c'] 28 2).trans rfl
    have x3 : (w.alloc (.cells #[.int .i64 cells, .slice a n c, .int .i64 sum, .slice a' n' c'] 28)).cell? ⟨w.heap.size, 3, none⟩ = some (.slice a' n' c') := (box_cells w #[.int .i64 cells, .slice a n c, .int .i64 sum, .slice a' n' c'] 28 3).trans rfl
    generalize (w.alloc (.cells #[.int .i64 cells, .slice a n c, .int .i64 sum, .slice a' n' c'] 28)) = W0 at hsz hB x0 x1 x2 x3 ⊢
    refine (sys2_c _ _ _ _ _ _ (h.mono hB) hcap).mono ?_
    rintro e w1 ⟨rfl, hb1⟩
    have y2 := ((bcell hb1).1 _ _ hsz).trans x2
    go_wp2
    go_ret
    exact ⟨ret_int hf.out.symm, hB.trans (hb1.mono (by omega))⟩
  have e3 : decide (999999999 < sum) = false := by simpa using h3
  by_cases h4 : (n' : Int) = cells
  case neg =>
    have hf : Hid (taskErr cells ls sum g = 2) := by unfold Hid taskErr; rw [if_neg (by rw [H1.out]; omega), if_neg (by omega), h'.len, if_pos h4]
    have hd : ((n' : Int) != cells) = true := by simpa using h4
    have h0 := Go.Lib.hid h4; clear h4
    go_enter Try.func12, Try.ntmps12
    go_wp2_with fail
    have hsz : w.heap.size < (w.alloc (.cells #[.int .i64 cells, .slice a n c, .int .i64 sum, .slice a' n' c'] 28)).heap.size := by simp
    have hB : Below w.heap.size w (w.alloc (.cells #[.int .i64 cells, .slice a n c, .int .i64 sum, .slice a' n' c'] 28)) := (Below.refl _ _).alloc (Nat.le_refl _) _
    have x0 : (w.alloc (.cells #[.int .i64 cells, .slice a n c, .int .i64 sum, .slice a' n' c'] 28)).cell? ⟨w.heap.size, 0, none⟩ = some (.int .i64 cells) := (box_cells w #[.int .i64 cells, .slice a n c, .int .i64 sum, .slice a' n' c'] 28 0).trans rfl
    have x1 : (w.alloc (.cells #[.int .i64 cells, .slice a n c, .int .i64 sum, .slice a' n' c'] 28)).cell? ⟨w.heap.size, 1, none⟩ = some (.slice a n c) := (box_cells w #[.int .i64 cells, .slice a n c, .int .i64 sum, .slice a' n' c'] 28 1).trans rfl
    have x2 : (w.alloc (.cells #[.int .i64 cells, .slice a n c, .int .i64 sum, .slice a' n' c'] 28)).cell? ⟨w.heap.size, 2, none⟩ = some (.int .i64 sum) := (box_cells w #[.int .i64 cells, .slice a n c, .int .i64 sum, .slice a' n' c'] 28 2).trans rfl
    have x3 : (w.alloc (.cells #[.int .i64 cells, .slice a n c, .int .i64 sum, .slice a' n' c'] 28)).cell? ⟨w.heap.size, 3, none⟩ = some (.slice a' n' c') := (box_cells w #[.int .i64 cells, .slice a n c, .int .i64 sum, .slice a' n' c'] 28 3).trans rfl
    generalize (w.alloc (.cells #[.int .i64 cells, .slice a n c, .int .i64 sum, .slice a' n' c'] 28)) = W0 at hsz hB x0 x1 x2 x3 ⊢
    refine (sys2_c _ _ _ _ _ _ (h.mono hB) hcap).mono ?_
    rintro e w1 ⟨rfl, hb1⟩
    have y2 := ((bcell hb1).1 _ _ hsz).trans x2
    have y3 := ((bcell hb1).1 _ _ hsz).trans x3
    have y0 := ((bcell hb1).1 _ _ hsz).trans x0
    go_wp2
    go_ret
    exact ⟨ret_int hf.out.symm, hB.trans (hb1.mono (by omega))⟩
  have e4 : ((n' : Int) != cells) = false := by simpa using h4
  have hf : Hid (taskErr cells ls sum g = errs (givenBad cells g) n') := by unfold Hid taskErr; rw [if_neg (by rw [H1.out]; omega), if_neg (by omega), h'.len, if_neg (by omega)]
  have H4 := Go.Lib.hid h4; clear h4
  go_enter Try.func12, Try.ntmps12
  go_wp2_with fail
  have hsz : w.heap.size < (w.alloc (.cells #[.int .i64 cells, .slice a n c, .int .i64 sum, .slice a' n' c'] 28)).heap.size := by simp
  have hB : Below w.heap.size w (w.alloc (.cells #[.int .i64 cells, .slice a n c, .int .i64 sum, .slice a' n' c'] 28)) := (Below.refl _ _).alloc (Nat.le_refl _) _
  have x0 : (w.alloc (.cells #[.int .i64 cells, .slice a n c, .int .i64 sum, .slice a' n' c'] 28)).cell? ⟨w.heap.size, 0, none⟩ = some (.int .i64 cells) := (box_cells w #[.int .i64 cells, .slice a n c, .int .i64 sum, .slice a' n' c'] 28 0).trans rfl
  have x1 : (w.alloc (.cells #[.int .i64 cells, .slice a n c, .int .i64 sum, .slice a' n' c'] 28)).cell? ⟨w.heap.size, 1, none⟩ = some (.slice a n c) := (box_cells w #[.int .i64 cells, .slice a n c, .int .i64 sum, .slice a' n' c'] 28 1).trans rfl
  have x2 : (w.alloc (.cells #[.int .i64 cells, .slice a n c, .int .i64 sum, .slice a' n' c'] 28)).cell? ⟨w.heap.size, 2, none⟩ = some (.int .i64 sum) := (box_cells w #[.int .i64 cells, .slice a n c, .int .i64 sum, .slice a' n' c'] 28 2).trans rfl
  have x3 : (w.alloc (.cells #[.int .i64 cells, .slice a n c, .int .i64 sum, .slice a' n' c'] 28)).cell? ⟨w.heap.size, 3, none⟩ = some (.slice a' n' c') := (box_cells w #[.int .i64 cells, .slice a n c, .int .i64 sum, .slice a' n' c'] 28 3).trans rfl
  generalize (w.alloc (.cells #[.int .i64 cells, .slice a n c, .int .i64 sum, .slice a' n' c'] 28)) = W0 at hsz hB x0 x1 x2 x3 ⊢
  refine (sys2_c _ _ _ _ _ _ (h.mono hB) hcap).mono ?_
  rintro e w1 ⟨rfl, hb1⟩
  have y2 := ((bcell hb1).1 _ _ hsz).trans x2
  have y3 := ((bcell hb1).1 _ _ hsz).trans x3
  have y0 := ((bcell hb1).1 _ _ hsz).trans x0
  have hi1 := (h'.mono hB).mono hb1
  have hB1 : Below w.heap.size w w1 := hB.trans (hb1.mono (by omega))
  have hsz1 : w.heap.size < w1.heap.size := by have := hb1.size; omega
  go_wp2
  have Y0 := Go.Lib.hid y0
  have Y3 := Go.Lib.hid y3
  clear x0 x1 x2 x3 y0 y2 y3
  go_loopw [4] (fun i wr => ∃ k : Nat, k ≤ n' ∧ i = .int .i64 k ∧ Hid (∀ j, j < k → givenBad cells g j = 0) ∧ Below w1.heap.size w1 wr) (fun i _ => n' - (intOf i).toNat)
  case atStart => exact ⟨0, by omega, rfl, fun j hj => absurd hj (by omega), Below.refl _ _⟩
  case round =>
    obtain ⟨k, hk, rfl, hn, hbr⟩ := hrel
    have hszr : w.heap.size < wr.heap.size := by have := hbr.size; omega
    have z0 := ((bcell hbr).1 _ _ hsz1).trans Y0.out
    have z3 := ((bcell hbr).1 _ _ hsz1).trans Y3.out
    by_cases hlt : k < n'
    · obtain ⟨b, off, rfl, hb, hc⟩ := (hi1.mono hbr).2 k hlt
      have hli : (k : Int) < (n' : Int) := by omega
      have hl0 : (0 : Int) ≤ (k : Int) := by omega
      have hkc : k ≤ c' := by omega
      by_cases g1 : g[k]?.getD 0 < 0
      · have f1 : decide (g[k]?.getD 0 < 0) = true := by simpa using g1
        have hE := Go.Lib.hid (givenBad_lo (cells := cells) g1)
        go_wp2
        refine wp_region_S (fun w' => ∃ u, w' = over (wr) u) [] [(0, 0), (0, 1), (0, 2), (0, 3), (0, 4), (0, 5), (0, 6), (0, 7), (0, 8), (0, 9), (0, 10), (0, 11), (0, 12), (0, 13), (0, 14), (0, 15), (0, 16)] (by kernel_rfl) (by kernel_rfl) (by exact ⟨_, below_over (by repeat (first | assumption | exact Below.refl _ _ | refine keep_drew ?_ | refine keep_alloc ?_ _ | refine keep_trans ?_ (by assumption)))⟩) ?_
        dsimp only [pickOps, nthOp]
        repeat (first | (refine wpS_skip rfl (fun K hK => ?_); go_big_quiet_op; refine hK _ ?_; clear hK K) | (refine wpS_quiet rfl rfl (fun K hK => ?_); go_big_quiet_op; refine hK _ ?_; clear hK K))
        refine wpS_end ?_
        go_wp2
        go_ret
        exact ⟨ret_int (by rw [hf.out, errs_found hn.out hlt (by rw [hE.out]; omega), hE.out]), (hB1.trans (hbr.mono (by omega))).drew⟩
      have f1 : decide (g[k]?.getD 0 < 0) = false := by simpa using g1
      by_cases g2 : cells < g[k]?.getD 0
      · have f2 : decide (cells < g[k]?.getD 0) = true := by simpa using g2
        have hE := Go.Lib.hid (givenBad_hi (cells := cells) g2)
        go_wp2
        refine wp_region_S (fun w' => ∃ u, w' = over (wr) u) [] [(0, 0), (0, 1), (0, 2), (0, 3), (0, 4), (0, 5), (0, 6), (0, 7), (0, 8), (0, 9), (0, 10), (0, 11), (0, 12), (0, 13), (0, 14), (0, 15), (0, 16)] (by kernel_rfl) (by kernel_rfl) (by exact ⟨_, below_over (by repeat (first | assumption | exact Below.refl _ _ | refine keep_drew ?_ | refine keep_alloc ?_ _ | refine keep_trans ?_ (by assumption)))⟩) ?_
        dsimp only [pickOps, nthOp]
        repeat (first | (refine wpS_skip rfl (fun K hK => ?_); go_big_quiet_op; refine hK _ ?_; clear hK K) | (refine wpS_quiet rfl rfl (fun K hK => ?_); go_big_quiet_op; refine hK _ ?_; clear hK K))
        refine wpS_end ?_
        go_wp2
        go_ret
        exact ⟨ret_int (by rw [hf.out, errs_found hn.out hlt (by rw [hE.out]; omega), hE.out]), (hB1.trans (hbr.mono (by omega))).drew⟩
      have f2 : decide (cells < g[k]?.getD 0) = false := by simpa using g2
      by_cases g3 : 0 < g[k]?.getD 0
      · have f3 : decide (0 < g[k]?.getD 0) = true := by simpa using g3
        have hit := (hi1.mono hbr).take k hk
        go_wp2
        refine wp_region_S (fun w' => ∃ u, w' = over (wr) u) [] [(0, 0), (0, 1), (0, 2), (0, 3), (0, 4), (0, 5), (0, 6), (0, 7), (0, 8), (0, 9), (0, 10), (0, 11), (0, 12), (0, 13), (0, 14), (0, 15), (0, 16)] (by kernel_rfl) (by kernel_rfl) (by exact ⟨_, below_over (by repeat (first | assumption | exact Below.refl _ _ | refine keep_drew ?_ | refine keep_alloc ?_ _ | refine keep_trans ?_ (by assumption)))⟩) ?_
        dsimp only [pickOps, nthOp]
        repeat (first | (refine wpS_skip rfl (fun K hK => ?_); go_big_quiet_op; refine hK _ ?_; clear hK K) | (refine wpS_quiet rfl rfl (fun K hK => ?_); go_big_quiet_op; refine hK _ ?_; clear hK K))
        refine wpS_end ?_
        go_wp2
        refine wp_region_S (fun w' => ∃ u, w' = over (wr) u) [] [(0, 0), (0, 1), (0, 2), (0, 3), (0, 4), (0, 5), (0, 6), (0, 7), (0, 8), (0, 9), (0, 10), (0, 11), (0, 12), (0, 13), (0, 14), (0, 15), (1, 16), (0, 17)] (by kernel_rfl) (by kernel_rfl) (by exact ⟨_, below_over (by repeat (first | assumption | exact Below.refl _ _ | refine keep_drew ?_ | refine keep_alloc ?_ _ | refine keep_trans ?_ (by assumption)))⟩) ?_
        dsimp only [pickOps, nthOp]
        repeat (first | (refine wpS_skip rfl (fun K hK => ?_); go_big_quiet_op; refine hK _ ?_; clear hK K) | (refine wpS_quiet rfl rfl (fun K hK => ?_); go_big_quiet_op; refine hK _ ?_; clear hK K) | (refine wpS_loud ?_; go_wp2_with (go_at_call 25; refine (has_c _ _ _ _ _ _ (hit.mono (keep_drew (keep_drew (Below.refl _ _))))).mono ?_; rintro e w1 ⟨rfl, rfl⟩); refine ⟨?_, ?_⟩; focus (exact ⟨_, below_over (by repeat (first | assumption | exact Below.refl _ _ | refine keep_drew ?_ | refine keep_alloc ?_ _ | refine keep_trans ?_ (by assumption)))⟩)))
        refine wpS_end ?_
        go_wp2
        · have hh : hasB (g.take k) (g[k]?.getD 0) = true := by assumption
          have hE := Go.Lib.hid (givenBad_tw (cells := cells) (by omega) (by omega) hh)
          go_ret
          exact ⟨ret_int (by rw [hf.out, errs_found hn.out hlt (by rw [hE.out]; omega), hE.out]), (hB1.trans (hbr.mono (by omega))).drew.drew⟩
        · have hh : hasB (g.take k) (g[k]?.getD 0) = false := by assumption
          have hE := Go.Lib.hid (givenBad_ok (cells := cells) (by omega) (by omega) (.inr hh))
          go_roundw
          case rel => exact ⟨k + 1, by omega, by go_num, upto_snoc hn.out hE.out, hbr.drew.drew⟩
          case measure => simp [intOf]; omega
      · have f3 : decide (0 < g[k]?.getD 0) = false := by simpa using g3
        have hE := Go.Lib.hid (givenBad_ok (cells := cells) g1 g2 (.inl g3))
        go_wp2
        refine wp_region_S (fun w' => ∃ u, w' = over (wr) u) [] [(0, 0), (0, 1), (0, 2), (0, 3), (0, 4), (0, 5), (0, 6), (0, 7), (0, 8), (0, 9), (0, 10), (0, 11), (0, 12), (0, 13), (0, 14), (0, 15), (0, 16)] (by kernel_rfl) (by kernel_rfl) (by exact ⟨_, below_over (by repeat (first | assumption | exact Below.refl _ _ | refine keep_drew ?_ | refine keep_alloc ?_ _ | refine keep_trans ?_ (by assumption)))⟩) ?_
        dsimp only [pickOps, nthOp]
        repeat (first | (refine wpS_skip rfl (fun K hK => ?_); go_big_quiet_op; refine hK _ ?_; clear hK K) | (refine wpS_quiet rfl rfl (fun K hK => ?_); go_big_quiet_op; refine hK _ ?_; clear hK K))
        refine wpS_end ?_
        go_wp2
        refine wp_region_S (fun w' => ∃ u, w' = over (wr) u) [] [(0, 0), (0, 1), (0, 2), (0, 3), (0, 4), (0, 5), (0, 6), (0, 7), (0, 8), (0, 9), (0, 10), (0, 11), (0, 12), (0, 13), (0, 14), (0, 15), (1, 16), (0, 17)] (by kernel_rfl) (by kernel_rfl) (by exact ⟨_, below_over (by repeat (first | assumption | exact Below.refl _ _ | refine keep_drew ?_ | refine keep_alloc ?_ _ | refine keep_trans ?_ (by assumption)))⟩) ?_
        dsimp only [pickOps, nthOp]
        repeat (first | (refine wpS_skip rfl (fun K hK => ?_); go_big_quiet_op; refine hK _ ?_; clear hK K) | (refine wpS_quiet rfl rfl (fun K hK => ?_); go_big_quiet_op; refine hK _ ?_; clear hK K) | (refine wpS_loud ?_; go_wp2; refine ⟨?_, ?_⟩; focus (exact ⟨_, below_over (by repeat (first | assumption | exact Below.refl _ _ | refine keep_drew ?_ | refine keep_alloc ?_ _ | refine keep_trans ?_ (by assumption)))⟩)))
        refine wpS_end ?_
        go_wp2
        go_roundw
        case rel => exact ⟨k + 1, by omega, by go_num, upto_snoc hn.out hE.out, hbr.drew.drew⟩
        case measure => simp [intOf]; omega
    · go_wp2
      go_ret
      have e : k = n' := by omega
      subst e
      exact ⟨ret_int (by rw [hf.out, errs_none hn.out]), hB1.trans (hbr.mono (by omega))⟩

end Go.Proofs.Ytcblpobiefmjmaa
