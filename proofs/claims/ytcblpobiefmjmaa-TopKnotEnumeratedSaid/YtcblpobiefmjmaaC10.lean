/- Contracts: the program's check of a system and a task. -/
import Derived.Test.YtcblpobiefmjmaaC9
namespace Go.Proofs.Ytcblpobiefmjmaa
open Go Go.RowKit
attribute [local go_sem] over_cell

theorem sys_first (cells : Int) (n : Nat) : firstL [whenV (anyP (fun k => outB 1 256 ([cells][k]?.getD 0)) 1) 3, whenV (decide (128 < (n : Int))) 5] = (if cells < 1 ∨ cells > 256 then 3 else if n > 128 then 5 else 0) := by
  have e : anyP (fun k => outB 1 256 ([cells][k]?.getD 0)) 1 = outB 1 256 cells := by simp [anyP, List.range_succ]
  rw [e]
  by_cases h1 : cells < 1 ∨ cells > 256
  · rw [if_pos h1]
    have : outB 1 256 cells = true := by
      rcases h1 with h | h
      · simp [outB, h]
      · have h' : 256 < cells := h
        simp [outB, h']
    simp [this, whenV, firstL]
  · rw [if_neg h1]
    have : outB 1 256 cells = false := by
      have a : ¬ cells < 1 := fun h => h1 (.inl h)
      have b : ¬ 256 < cells := fun h => h1 (.inr h)
      simp [outB, a, b]
    by_cases h2 : n > 128
    · have h2' : (128 : Int) < n := by omega
      simp [this, whenV, firstL, h2, h2']
    · have h2' : ¬ (128 : Int) < n := by omega
      simp [this, whenV, firstL, h2, h2']

set_option maxRecDepth 100000 in
set_option maxHeartbeats 4000000 in
theorem sys_c (a : Option Addr) (n c : Nat) (ls : List (List Int)) (cells : Int) (w : World) (h : RC w a n ls) (hcap : n ≤ c) :
    Calls Try.prog 29 #[.agg #[.int .i64 cells, .slice a n c]] w fun e w' => e = .returned (.int .i64 (sysErr cells ls)) ∧ Below w.heap.size w w' := by
  have hm := h.small
  have hF : Hid (sysErr cells ls = if firstL [whenV (anyP (fun k => outB 1 256 ([cells][k]?.getD 0)) 1) 3, whenV (decide (128 < (n : Int))) 5] ≠ 0 then firstL [whenV (anyP (fun k => outB 1 256 ([cells][k]?.getD 0)) 1) 3, whenV (decide (128 < (n : Int))) 5] else errs (lineErr cells ls) n) := by
    unfold Hid
    rw [sys_first, sysErr, h.len]
    by_cases h1 : cells < 1 ∨ cells > 256
    · simp [h1]
    · by_cases h2 : n > 128
      · simp [h1, h2]
      · simp [h1, h2]
  go_enter Try.func29, Try.ntmps29
  go_wp2
  have hsz : w.heap.size < (w.alloc (.cells #[.int .i64 cells, .slice a n c] 24)).heap.size := by simp
  have hB : Below w.heap.size w (w.alloc (.cells #[.int .i64 cells, .slice a n c] 24)) := (Below.refl _ _).alloc (Nat.le_refl _) _
  have x0 : (w.alloc (.cells #[.int .i64 cells, .slice a n c] 24)).cell? ⟨w.heap.size, 0, none⟩ = some (.int .i64 cells) := (box_cells w #[.int .i64 cells, .slice a n c] 24 0).trans rfl
  have x1 : (w.alloc (.cells #[.int .i64 cells, .slice a n c] 24)).cell? ⟨w.heap.size, 1, none⟩ = some (.slice a n c) := (box_cells w #[.int .i64 cells, .slice a n c] 24 1).trans rfl
  generalize (w.alloc (.cells #[.int .i64 cells, .slice a n c] 24)) = W0 at hsz hB x0 x1 ⊢
  have h0 := h.mono hB
  refine wp_region_S (fun w' => ∃ u, w' = over (W0) u) [11, 10, 9, 8] [(0, 0), (0, 1), (0, 4), (0, 5), (0, 6), (0, 7), (1, 2), (1, 3), (2, 8), (2, 9), (2, 10), (2, 11)] (by kernel_rfl) (by kernel_rfl) (by exact ⟨_, below_over (by repeat (first | assumption | exact Below.refl _ _ | refine keep_drew ?_ | refine keep_alloc ?_ _ | refine keep_trans ?_ (by assumption)))⟩) ?_
  dsimp only [pickOps, nthOp]
  repeat (first | (refine wpS_skip rfl (fun K hK => ?_); go_big_quiet_op; refine hK _ ?_; clear hK K) | (refine wpS_quiet rfl rfl (fun K hK => ?_); go_big_quiet_op; refine hK _ ?_; clear hK K) | (refine wpS_loud ?_; go_wp2_with (first | (go_at_call 44; refine (from_c _ _ _ [cells] _ _ _ ((IC.new1 _ _ _).mono (keep_drew (Below.refl _ _)))).mono ?_; rintro e w1 ⟨rfl, hb1⟩) | (go_at_call 45; refine (lwhen_c _ _ _).mono ?_; rintro e w2 ⟨rfl, rfl⟩) | (go_at_call 43; refine (lfirst_c _ _ _ _ _ (IC.new2 _ _ _ _)).mono ?_; rintro e w2 ⟨rfl, rfl⟩)); refine ⟨?_, ?_⟩; focus (exact ⟨_, below_over (by repeat (first | assumption | exact Below.refl _ _ | refine keep_drew ?_ | refine keep_alloc ?_ _ | refine keep_trans ?_ (by assumption)))⟩)))
  refine wpS_late _ _ _ rfl ?_
  dsimp only [List.map]
  go_wp2_with (first | (go_at_call 44; refine (from_c _ _ _ [cells] _ _ _ ((IC.new1 _ _ _).mono (keep_drew (Below.refl _ _)))).mono ?_; rintro e w1 ⟨rfl, hb1⟩) | (go_at_call 45; refine (lwhen_c _ _ _).mono ?_; rintro e w2 ⟨rfl, rfl⟩) | (go_at_call 43; refine (lfirst_c _ _ _ _ _ (IC.new2 _ _ _ _)).mono ?_; rintro e w2 ⟨rfl, rfl⟩))
  refine NoPanic.normal ?_
  have hb2 : Below W0.heap.size W0 (w1.alloc (.cells #[.int .i64 (whenV (anyP (fun k => outB 1 256 ([cells][k]?.getD 0)) 1) 3), .int .i64 (whenV (decide (128 < (n : Int))) 5)] 32)) := keep_alloc (keep_trans (keep_drew (keep_alloc (Below.refl _ _) _)) hb1) _
  generalize (w1.alloc (.cells #[.int .i64 (whenV (anyP (fun k => outB 1 256 ([cells][k]?.getD 0)) 1) 3), .int .i64 (whenV (decide (128 < (n : Int))) 5)] 32)) = w3 at hb2 ⊢
  clear hb1
  generalize firstL [whenV (anyP (fun k => outB 1 256 ([cells][k]?.getD 0)) 1) 3, whenV (decide (128 < (n : Int))) 5] = v at hF ⊢
  have hB3 : Below w.heap.size w w3 := hB.trans (hb2.mono (by omega))
  have h3 := h0.mono hb2
  have hsz3 : w.heap.size < w3.heap.size := by have := hb2.size; omega
  have y0 := ((bcell hb2).1 _ _ hsz).trans x0
  have y1 := ((bcell hb2).1 _ _ hsz).trans x1
  clear x0 x1
  by_cases hv : v = 0
  case neg =>
    have hv' : (v != 0) = true := by simpa using hv
    have hV := Go.Lib.hid hv
    clear hv
    go_wp2
    go_ret
    exact ⟨ret_int (by rw [hF.out, if_pos hV.out]), hB3⟩
  have hv' : (v != 0) = false := by simpa using hv
  have hV := Go.Lib.hid hv
  clear hv
  go_wp2
  have Y0 := Go.Lib.hid y0
  have Y1 := Go.Lib.hid y1
  clear y0 y1
  go_loopw [4, 5, 23] (fun _ _ i wr => ∃ k : Nat, k ≤ n ∧ i = .int .i64 k ∧ Hid (∀ j, j < k → lineErr cells ls j = 0) ∧ Below w3.heap.size w3 wr) (fun _ _ i _ => n - (intOf i).toNat)
  case atStart => exact ⟨0, by omega, rfl, fun j hj => absurd hj (by omega), Below.refl _ _⟩
  case round =>
    obtain ⟨k, hk, rfl, hn, hbr⟩ := hrel
    have z0 := ((bcell hbr).1 _ _ hsz3).trans Y0.out
    have z1 := ((bcell hbr).1 _ _ hsz3).trans Y1.out
    by_cases hlt : k < n
    · have HI := Go.Lib.hid (checkLine_c a n c ls cells k wr (h3.mono hbr) hcap hlt)
      go_wp2_with (go_at_call 46; refine HI.out.mono ?_; rintro e w4 ⟨rfl, hb4⟩)
      · have he : (lineErr cells ls k != 0) = true := by assumption
        go_ret
        have h1 := errs_found hn.out hlt (by simpa using he)
        exact ⟨ret_int (by rw [hF.out, if_neg (by rw [hV.out]; simp), h1]), (hB3.trans (hbr.mono (by omega))).trans (hb4.mono (by have := hbr.size; omega))⟩
      · have he : (lineErr cells ls k != 0) = false := by assumption
        go_roundw
        case rel => exact ⟨k + 1, by omega, by go_num, upto_snoc hn.out (by simpa using he), hbr.trans (hb4.mono hbr.size)⟩
        case measure => simp [intOf]; omega
    · have e : k = n := by omega
      subst e
      go_wp2
      go_ret
      exact ⟨ret_int (by rw [hF.out, if_neg (by rw [hV.out]; simp), errs_none hn.out]), hB3.trans (hbr.mono (by omega))⟩

theorem task_first (e : Int) (sum cells : Int) (n : Nat) (ls : List (List Int)) (g : List Int) (hl : g.length = n) (he : e = sysErr cells ls) :
    taskErr cells ls sum g = if firstL [e, whenV (decide (sum < 1) || decide (999999999 < sum)) 3, whenV ((n : Int) != cells) 2] ≠ 0 then firstL [e, whenV (decide (sum < 1) || decide (999999999 < sum)) 3, whenV ((n : Int) != cells) 2] else errs (givenBad cells g) n := by
  subst he
  unfold taskErr
  by_cases h1 : sysErr cells ls = 0
  · rw [if_neg (by simp [h1])]
    by_cases h2 : sum < 1 ∨ sum > 999999999
    · rw [if_pos h2]
      have : (decide (sum < 1) || decide (999999999 < sum)) = true := by
        rcases h2 with h | h
        · simp [h]
        · have h' : 999999999 < sum := h
          simp [h']
      simp [h1, this, whenV, firstL]
    · rw [if_neg h2]
      have a : ¬ sum < 1 := fun h => h2 (.inl h)
      have b : ¬ 999999999 < sum := fun h => h2 (.inr h)
      by_cases h3 : (n : Int) = cells
      · rw [if_neg (by rw [hl]; simpa using h3), hl]
        simp [h1, a, b, h3, whenV, firstL]
      · rw [if_pos (by rw [hl]; exact h3)]
        simp [h1, a, b, h3, whenV, firstL]
  · rw [if_pos h1]
    simp [firstL, h1]

theorem given_first (cells : Int) (g : List Int) (k : Nat) : givenBad cells g k = firstL [whenV (decide (g[k]?.getD 0 < 0) || decide (cells < g[k]?.getD 0)) 3, whenV (decide (0 < g[k]?.getD 0) && hasB (g.take k) (g[k]?.getD 0)) 9] := by
  unfold givenBad
  by_cases h1 : g[k]?.getD 0 < 0
  · rw [if_pos (.inl h1)]; simp [h1, whenV, firstL]
  by_cases h2 : cells < g[k]?.getD 0
  · rw [if_pos (.inr h2)]; simp [h2, whenV, firstL]
  rw [if_neg (by omega)]
  by_cases h3 : 0 < g[k]?.getD 0
  · by_cases h4 : hasB (g.take k) (g[k]?.getD 0) = true
    · simp [h1, h2, h3, h4, whenV, firstL]
    · simp only [Bool.not_eq_true] at h4
      simp [h1, h2, h4, whenV, firstL]
  · simp [h1, h2, h3, whenV, firstL]


end Go.Proofs.Ytcblpobiefmjmaa
