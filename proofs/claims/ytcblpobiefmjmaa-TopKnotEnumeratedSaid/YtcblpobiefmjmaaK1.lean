/- Contracts of count: when, first, checkSmall. -/
import Derived.Test.YtcblpobiefmjmaaI6
namespace Go.Proofs.Ytcblpobiefmjmaa
open Go Go.RowKit Go.Shelf
attribute [local go_sem] over_cell

theorem kwhen_c (h : Bool) (e : Int) (w : World) : Calls Try.prog 32 #[.bool h, .int .i64 e] w fun r w' => r = .returned (.int .i64 (whenV h e)) ∧ w = w' := by
  cases h
  · go_enter Try.func32, Try.ntmps32
    go_wp2
    go_ret
    exact ⟨rfl, rfl⟩
  · go_enter Try.func32, Try.ntmps32
    go_wp2
    go_ret
    exact ⟨rfl, rfl⟩

set_option maxRecDepth 100000 in
set_option maxHeartbeats 1000000 in
theorem kfirst_c (a : Option Addr) (n c : Nat) (xs : List Int) (w : World) (h : IC w a n xs) :
    Calls Try.prog 31 #[.slice a n c] w fun e w' => e = .returned (.int .i64 (firstL xs)) ∧ w = w' := by
  have hm := h.small
  go_enter Try.func31, Try.ntmps31
  go_wp2
  go_loop [4, 7] (fun _ i => ∃ k : Nat, k ≤ n ∧ i = .int .i64 k ∧ Hid (∀ j, j < k → xs[j]?.getD 0 = 0)) (fun _ i => n - (intOf i).toNat)
  case atStart => exact ⟨0, by omega, rfl, fun j hj => absurd hj (by omega)⟩
  case round =>
    obtain ⟨k, hk, rfl, hn⟩ := hrel
    by_cases hlt : k < n
    · obtain ⟨b, off, rfl, hb, hc⟩ := h.2 k hlt
      go_wp2
      · have he : (xs[k]?.getD 0 != 0) = true := by assumption
        go_ret
        exact ⟨ret_int (firstL_hit hn.out (by rw [h.len]; exact hlt) (by simpa using he)).symm, rfl⟩
      · have he : (xs[k]?.getD 0 != 0) = false := by assumption
        go_round
        case rel => exact ⟨k + 1, by omega, by go_num, upI_snoc (f := fun j => xs[j]?.getD 0) hn.out (by simpa using he)⟩
        case measure => simp [intOf]; omega
    · have e : k = n := by omega
      subst e
      go_wp2
      go_ret
      exact ⟨ret_int (firstL_none (by rw [h.len]; exact hn.out)).symm, rfl⟩

def ksmallErr (cells : Int) (ls : List (List Int)) : Int := firstL [sysErr cells ls, whenV (decide (9 < cells)) 20]

set_option maxRecDepth 100000 in
set_option maxHeartbeats 2000000 in
theorem ksmall_c (a : Option Addr) (n c : Nat) (ls : List (List Int)) (cells : Int) (w : World) (h : RC w a n ls) (hcap : n ≤ c) :
    Calls Try.prog 20 #[.agg #[.int .i64 cells, .slice a n c]] w fun e w' => e = .returned (.int .i64 (ksmallErr cells ls)) ∧ Below w.heap.size w w' := by
  have hE : Hid (ksmallErr cells ls = firstL [sysErr cells ls, whenV (decide (9 < cells)) 20]) := rfl
  have H := Go.Lib.hid h
  by_cases hs : 9 < cells
  · have ed : decide (9 < cells) = true := by simpa using hs
    rw [ed] at hE
    go_enter Try.func20, Try.ntmps20
    go_wp2
    have hsz : w.heap.size < (w.alloc (.cells #[.int .i64 cells, .slice a n c] 24)).heap.size := by simp
    have hB : Below w.heap.size w (w.alloc (.cells #[.int .i64 cells, .slice a n c] 24)) := (Below.refl _ _).alloc (Nat.le_refl _) _
    have x0 : (w.alloc (.cells #[.int .i64 cells, .slice a n c] 24)).cell? ⟨w.heap.size, 0, none⟩ = some (.int .i64 cells) := (box_cells w #[.int .i64 cells, .slice a n c] 24 0).trans rfl
    have x1 : (w.alloc (.cells #[.int .i64 cells, .slice a n c] 24)).cell? ⟨w.heap.size, 1, none⟩ = some (.slice a n c) := (box_cells w #[.int .i64 cells, .slice a n c] 24 1).trans rfl
    generalize (w.alloc (.cells #[.int .i64 cells, .slice a n c] 24)) = W0 at hsz hB x0 x1 ⊢
    have HS := Go.Lib.hid (fun w1 (hb : Below W0.heap.size W0 w1) => sys_c a n c ls cells w1 ((H.out.mono hB).mono hb) hcap)
    clear h
    refine wp_region_S (fun w' => ∃ u, w' = over (W0) u) [8, 7, 6, 5] [(0, 0), (0, 2), (0, 3), (0, 4), (1, 1), (2, 5), (2, 6), (2, 7), (2, 8)] (by kernel_rfl) (by kernel_rfl) (by exact ⟨_, below_over (by repeat (first | assumption | exact Below.refl _ _ | refine keep_drew ?_ | refine keep_alloc ?_ _ | refine keep_trans ?_ (by assumption)))⟩) ?_
    dsimp only [pickOps, nthOp]
    repeat (first | (refine wpS_skip rfl (fun K hK => ?_); go_big_quiet_op; refine hK _ ?_; clear hK K) | (refine wpS_quiet rfl rfl (fun K hK => ?_); go_big_quiet_op; refine hK _ ?_; clear hK K) | (refine wpS_loud ?_; go_wp2_with (first | (go_at_call 29; refine (HS.out _ (keep_drew (Below.refl _ _))).mono ?_; rintro _ w1 ⟨rfl, hb1⟩) | (go_at_call 32; refine (kwhen_c _ _ _).mono ?_; rintro _ w2 ⟨rfl, rfl⟩) | (go_at_call 31; refine (kfirst_c _ _ _ _ _ (IC.new2 _ _ _ _)).mono ?_; rintro _ w4 ⟨rfl, rfl⟩)); refine ⟨?_, ?_⟩; focus (exact ⟨_, below_over (by repeat (first | assumption | exact Below.refl _ _ | refine keep_drew ?_ | refine keep_alloc ?_ _ | refine keep_trans ?_ (by assumption)))⟩)))
    refine wpS_late _ _ _ rfl ?_
    dsimp only [List.map]
    go_wp2_with (first | (go_at_call 29; refine (HS.out _ (keep_drew (Below.refl _ _))).mono ?_; rintro _ w1 ⟨rfl, hb1⟩) | (go_at_call 32; refine (kwhen_c _ _ _).mono ?_; rintro _ w2 ⟨rfl, rfl⟩) | (go_at_call 31; refine (kfirst_c _ _ _ _ _ (IC.new2 _ _ _ _)).mono ?_; rintro _ w4 ⟨rfl, rfl⟩))
    refine NoPanic.normal ?_
    go_wp2
    go_ret
    exact ⟨ret_int hE.out.symm, hB.trans ((keep_alloc (keep_trans (keep_drew (Below.refl _ _)) hb1) _).mono (by omega))⟩
  · have ed : decide (9 < cells) = false := by simpa using hs
    rw [ed] at hE
    go_enter Try.func20, Try.ntmps20
    go_wp2
    have hsz : w.heap.size < (w.alloc (.cells #[.int .i64 cells, .slice a n c] 24)).heap.size := by simp
    have hB : Below w.heap.size w (w.alloc (.cells #[.int .i64 cells, .slice a n c] 24)) := (Below.refl _ _).alloc (Nat.le_refl _) _
    have x0 : (w.alloc (.cells #[.int .i64 cells, .slice a n c] 24)).cell? ⟨w.heap.size, 0, none⟩ = some (.int .i64 cells) := (box_cells w #[.int .i64 cells, .slice a n c] 24 0).trans rfl
    have x1 : (w.alloc (.cells #[.int .i64 cells, .slice a n c] 24)).cell? ⟨w.heap.size, 1, none⟩ = some (.slice a n c) := (box_cells w #[.int .i64 cells, .slice a n c] 24 1).trans rfl
    generalize (w.alloc (.cells #[.int .i64 cells, .slice a n c] 24)) = W0 at hsz hB x0 x1 ⊢
    have HS := Go.Lib.hid (fun w1 (hb : Below W0.heap.size W0 w1) => sys_c a n c ls cells w1 ((H.out.mono hB).mono hb) hcap)
    clear h
    refine wp_region_S (fun w' => ∃ u, w' = over (W0) u) [8, 7, 6, 5] [(0, 0), (0, 2), (0, 3), (0, 4), (1, 1), (2, 5), (2, 6), (2, 7), (2, 8)] (by kernel_rfl) (by kernel_rfl) (by exact ⟨_, below_over (by repeat (first | assumption | exact Below.refl _ _ | refine keep_drew ?_ | refine keep_alloc ?_ _ | refine keep_trans ?_ (by assumption)))⟩) ?_
    dsimp only [pickOps, nthOp]
    repeat (first | (refine wpS_skip rfl (fun K hK => ?_); go_big_quiet_op; refine hK _ ?_; clear hK K) | (refine wpS_quiet rfl rfl (fun K hK => ?_); go_big_quiet_op; refine hK _ ?_; clear hK K) | (refine wpS_loud ?_; go_wp2_with (first | (go_at_call 29; refine (HS.out _ (keep_drew (Below.refl _ _))).mono ?_; rintro _ w1 ⟨rfl, hb1⟩) | (go_at_call 32; refine (kwhen_c _ _ _).mono ?_; rintro _ w2 ⟨rfl, rfl⟩) | (go_at_call 31; refine (kfirst_c _ _ _ _ _ (IC.new2 _ _ _ _)).mono ?_; rintro _ w4 ⟨rfl, rfl⟩)); refine ⟨?_, ?_⟩; focus (exact ⟨_, below_over (by repeat (first | assumption | exact Below.refl _ _ | refine keep_drew ?_ | refine keep_alloc ?_ _ | refine keep_trans ?_ (by assumption)))⟩)))
    refine wpS_late _ _ _ rfl ?_
    dsimp only [List.map]
    go_wp2_with (first | (go_at_call 29; refine (HS.out _ (keep_drew (Below.refl _ _))).mono ?_; rintro _ w1 ⟨rfl, hb1⟩) | (go_at_call 32; refine (kwhen_c _ _ _).mono ?_; rintro _ w2 ⟨rfl, rfl⟩) | (go_at_call 31; refine (kfirst_c _ _ _ _ _ (IC.new2 _ _ _ _)).mono ?_; rintro _ w4 ⟨rfl, rfl⟩))
    refine NoPanic.normal ?_
    go_wp2
    go_ret
    exact ⟨ret_int hE.out.symm, hB.trans ((keep_alloc (keep_trans (keep_drew (Below.refl _ _)) hb1) _).mono (by omega))⟩

end Go.Proofs.Ytcblpobiefmjmaa
