/- Completions: the first of all that is found. -/
import Derived.Test.YtcblpobiefmjmaaI5
namespace Go.Proofs.Ytcblpobiefmjmaa
open Go Go.RowKit Go.Shelf
attribute [local go_sem] over_cell

def compE (cells : Int) (ls : List (List Int)) (sum : Int) (g : List Int) (most : Int) : Int := firstL [taskErr cells ls sum g, whenV (decide (most < 1) || decide (256 < most)) 3, smallErr cells ls sum g]
def compL (cells : Int) (ls : List (List Int)) (sum : Int) (g : List Int) (most : Int) : List (List Int) := if (compE cells ls sum g most != 0) = true then [] else (solsL ls sum g []).take most.toNat

theorem firstL_zero {l : List Int} (h : firstL l = 0) : ∀ x, x ∈ l → x = 0 := by
  induction l with
  | nil => intro x hx; cases hx
  | cons y l ih =>
    unfold firstL at h
    by_cases e : (y != 0) = true
    · rw [if_pos e] at h; rw [h] at e; exact absurd e (by decide)
    · rw [if_neg e] at h
      intro x hx
      rcases List.mem_cons.1 hx with h1 | h1
      · rw [h1]; simpa using e
      · exact ih h x h1

theorem RC.none (w : World) : RC w none 0 [] := ⟨⟨rfl, by omega⟩, fun _ h => absurd h (Nat.not_lt_zero _)⟩

set_option maxRecDepth 100000 in
set_option maxHeartbeats 4000000 in
theorem comp_c (a : Option Addr) (n c : Nat) (ls : List (List Int)) (cells sum : Int) (a' : Option Addr) (n' c' : Nat) (g : List Int) (most : Int) (w : World) (h : RC w a n ls) (hcap : n ≤ c) (h' : IC w a' n' g) (hcap' : n' ≤ c') :
    Calls Try.prog 8 #[.agg #[.int .i64 cells, .slice a n c, .int .i64 sum, .slice a' n' c'], .int .i64 most] w fun e w' => ∃ ar nr cr, e = .returned (.tuple #[.slice ar nr cr, .int .i64 (compE cells ls sum g most)]) ∧ RC w' ar nr (compL cells ls sum g most) ∧ nr ≤ cr ∧ Below w.heap.size w w' := by
  have hm := h.small
  have hm' := h'.small
  have H := Go.Lib.hid h
  have H' := Go.Lib.hid h'
  have hE : Hid (compE cells ls sum g most = firstL [taskErr cells ls sum g, whenV (decide (most < 1) || decide (256 < most)) 3, smallErr cells ls sum g]) := rfl
  have hL : Hid (compL cells ls sum g most = if (compE cells ls sum g most != 0) = true then [] else (solsL ls sum g []).take most.toNat) := rfl
  by_cases hs1 : most < 1
  · have ed1 : decide (most < 1) = true := by simpa using hs1
    have hE2 : Hid (compE cells ls sum g most = firstL [taskErr cells ls sum g, whenV true 3, smallErr cells ls sum g]) := by have := hE.out; rw [ed1, Bool.true_or] at this; exact this
    go_enter Try.func8, Try.ntmps8
    go_wp2
    have hsz : w.heap.size < (w.alloc (.cells #[.int .i64 cells, .slice a n c, .int .i64 sum, .slice a' n' c'] 27)).heap.size := by simp
    have hB : Below w.heap.size w (w.alloc (.cells #[.int .i64 cells, .slice a n c, .int .i64 sum, .slice a' n' c'] 27)) := (Below.refl _ _).alloc (Nat.le_refl _) _
    have x0 : (w.alloc (.cells #[.int .i64 cells, .slice a n c, .int .i64 sum, .slice a' n' c'] 27)).cell? ⟨w.heap.size, 0, none⟩ = some (.int .i64 cells) := (box_cells w #[.int .i64 cells, .slice a n c, .int .i64 sum, .slice a' n' c'] 27 0).trans rfl
    have x1 : (w.alloc (.cells #[.int .i64 cells, .slice a n c, .int .i64 sum, .slice a' n' c'] 27)).cell? ⟨w.heap.size, 1, none⟩ = some (.slice a n c) := (box_cells w #[.int .i64 cells, .slice a n c, .int .i64 sum, .slice a' n' c'] 27 1).trans rfl
    have x2 : (w.alloc (.cells #[.int .i64 cells, .slice a n c, .int .i64 sum, .slice a' n' c'] 27)).cell? ⟨w.heap.size, 2, none⟩ = some (.int .i64 sum) := (box_cells w #[.int .i64 cells, .slice a n c, .int .i64 sum, .slice a' n' c'] 27 2).trans rfl
    have x3 : (w.alloc (.cells #[.int .i64 cells, .slice a n c, .int .i64 sum, .slice a' n' c'] 27)).cell? ⟨w.heap.size, 3, none⟩ = some (.slice a' n' c') := (box_cells w #[.int .i64 cells, .slice a n c, .int .i64 sum, .slice a' n' c'] 27 3).trans rfl
    generalize (w.alloc (.cells #[.int .i64 cells, .slice a n c, .int .i64 sum, .slice a' n' c'] 27)) = W0 at hsz hB x0 x1 x2 x3 ⊢
    have HT := Go.Lib.hid (fun w1 (hb : Below W0.heap.size W0 w1) => task_c a n c ls cells sum a' n' c' g w1 ((H.out.mono hB).mono hb) hcap ((H'.out.mono hB).mono hb) hcap')
    have HS := Go.Lib.hid (fun w1 (hb : Below W0.heap.size W0 w1) => small_c a n c ls cells sum a' n' c' g w1 ((H.out.mono hB).mono hb) hcap ((H'.out.mono hB).mono hb) hcap')
    clear h h'
    refine wp_region_S (fun w' => ∃ u, w' = over (W0) u) [13, 12, 11, 10] [(0, 0), (0, 2), (0, 3), (0, 9), (1, 1), (0, 4), (0, 5), (0, 6), (0, 7), (1, 8), (2, 10), (2, 11), (2, 12), (2, 13)] (by kernel_rfl) (by kernel_rfl) (by exact ⟨_, below_over (by repeat (first | assumption | exact Below.refl _ _ | refine keep_drew ?_ | refine keep_alloc ?_ _ | refine keep_trans ?_ (by assumption)))⟩) ?_
    dsimp only [pickOps, nthOp]
    repeat (first | (refine wpS_skip rfl (fun K hK => ?_); go_big_quiet_op; refine hK _ ?_; clear hK K) | (refine wpS_quiet rfl rfl (fun K hK => ?_); go_big_quiet_op; refine hK _ ?_; clear hK K) | (refine wpS_loud ?_; go_wp2_with (first | (go_at_call 17; refine (HT.out _ (keep_drew (Below.refl _ _))).mono ?_; rintro _ w1 ⟨rfl, hb1⟩) | (go_at_call 18; refine (when_c _ _ _).mono ?_; rintro _ w2 ⟨rfl, rfl⟩) | (go_at_call 14; refine (HS.out _ (keep_trans (keep_drew (Below.refl _ _)) hb1)).mono ?_; rintro _ w3 ⟨rfl, hb3⟩) | (go_at_call 16; refine (first_c _ _ _ _ _ (IC.new3 _ _ _ _ _)).mono ?_; rintro _ w4 ⟨rfl, rfl⟩)); refine ⟨?_, ?_⟩; focus (exact ⟨_, below_over (by repeat (first | assumption | exact Below.refl _ _ | refine keep_drew ?_ | refine keep_alloc ?_ _ | refine keep_trans ?_ (by assumption)))⟩)))
    refine wpS_late _ _ _ rfl ?_
    dsimp only [List.map]
    go_wp2_with (first | (go_at_call 17; refine (HT.out _ (keep_drew (Below.refl _ _))).mono ?_; rintro _ w1 ⟨rfl, hb1⟩) | (go_at_call 18; refine (when_c _ _ _).mono ?_; rintro _ w2 ⟨rfl, rfl⟩) | (go_at_call 14; refine (HS.out _ (keep_trans (keep_drew (Below.refl _ _)) hb1)).mono ?_; rintro _ w3 ⟨rfl, hb3⟩) | (go_at_call 16; refine (first_c _ _ _ _ _ (IC.new3 _ _ _ _ _)).mono ?_; rintro _ w4 ⟨rfl, rfl⟩))
    refine NoPanic.normal ?_
    have hb4 : Below W0.heap.size W0 (w3.alloc (.cells #[.int .i64 (taskErr cells ls sum g), .int .i64 (whenV true 3), .int .i64 (smallErr cells ls sum g)] 32)) := keep_alloc (keep_trans (keep_trans (keep_drew (Below.refl _ _)) hb1) hb3) _
    generalize (w3.alloc (.cells #[.int .i64 (taskErr cells ls sum g), .int .i64 (whenV true 3), .int .i64 (smallErr cells ls sum g)] 32)) = w5 at hb4 ⊢
    clear hb1 hb3 HT HS hE
    have y0 := ((bcell hb4).1 _ _ hsz).trans x0
    have y1 := ((bcell hb4).1 _ _ hsz).trans x1
    have y2 := ((bcell hb4).1 _ _ hsz).trans x2
    have y3 := ((bcell hb4).1 _ _ hsz).trans x3
    clear x0 x1 x2 x3
    have hBW : Below w.heap.size w w5 := hB.trans (hb4.mono (by omega))
    have hv : firstL [taskErr cells ls sum g, whenV true 3, smallErr cells ls sum g] ≠ 0 := fun e => by have := firstL_zero e 3 (by simp [whenV]); omega
    have hv' : (firstL [taskErr cells ls sum g, whenV true 3, smallErr cells ls sum g] != 0) = true := by simpa using hv
    have HV := Go.Lib.hid hv
    clear hv
    generalize firstL [taskErr cells ls sum g, whenV true 3, smallErr cells ls sum g] = v at hE2 hv' HV ⊢
    go_wp2
    go_ret2
    refine ⟨none, 0, 0, ?_, ?_, Nat.le_refl _, hBW⟩
    · rw [hE2.out]; rfl
    · rw [hL.out, hE2.out, if_pos hv']; exact RC.none _
  · by_cases hs2 : 256 < most
    · have ed1 : decide (most < 1) = false := by simpa using hs1
      have ed2 : decide (256 < most) = true := by simpa using hs2
      have hE2 : Hid (compE cells ls sum g most = firstL [taskErr cells ls sum g, whenV true 3, smallErr cells ls sum g]) := by have := hE.out; rw [ed1, ed2, Bool.false_or] at this; exact this
      go_enter Try.func8, Try.ntmps8
      go_wp2
      have hsz : w.heap.size < (w.alloc (.cells #[.int .i64 cells, .slice a n c, .int .i64 sum, .slice a' n' c'] 27)).heap.size := by simp
      have hB : Below w.heap.size w (w.alloc (.cells #[.int .i64 cells, .slice a n c, .int .i64 sum, .slice a' n' c'] 27)) := (Below.refl _ _).alloc (Nat.le_refl _) _
      have x0 : (w.alloc (.cells #[.int .i64 cells, .slice a n c, .int .i64 sum, .slice a' n' c'] 27)).cell? ⟨w.heap.size, 0, none⟩ = some (.int .i64 cells) := (box_cells w #[.int .i64 cells, .slice a n c, .int .i64 sum, .slice a' n' c'] 27 0).trans rfl
      have x1 : (w.alloc (.cells #[.int .i64 cells, .slice a n c, .int .i64 sum, .slice a' n' c'] 27)).cell? ⟨w.heap.size, 1, none⟩ = some (.slice a n c) := (box_cells w #[.int .i64 cells, .slice a n c, .int .i64 sum, .slice a' n' c'] 27 1).trans rfl
      have x2 : (w.alloc (.cells #[.int .i64 cells, .slice a n c, .int .i64 sum, .slice a' n' c'] 27)).cell? ⟨w.heap.size, 2, none⟩ = some (.int .i64 sum) := (box_cells w #[.int .i64 cells, .slice a n c, .int .i64 sum, .slice a' n' c'] 27 2).trans rfl
      have x3 : (w.alloc (.cells #[.int .i64 cells, .slice a n c, .int .i64 sum, .slice a' n' c'] 27)).cell? ⟨w.heap.size, 3, none⟩ = some (.slice a' n' c') := (box_cells w #[.int .i64 cells, .slice a n c, .int .i64 sum, .slice a' n' c'] 27 3).trans rfl
      generalize (w.alloc (.cells #[.int .i64 cells, .slice a n c, .int .i64 sum, .slice a' n' c'] 27)) = W0 at hsz hB x0 x1 x2 x3 ⊢
      have HT := Go.Lib.hid (fun w1 (hb : Below W0.heap.size W0 w1) => task_c a n c ls cells sum a' n' c' g w1 ((H.out.mono hB).mono hb) hcap ((H'.out.mono hB).mono hb) hcap')
      have HS := Go.Lib.hid (fun w1 (hb : Below W0.heap.size W0 w1) => small_c a n c ls cells sum a' n' c' g w1 ((H.out.mono hB).mono hb) hcap ((H'.out.mono hB).mono hb) hcap')
      clear h h'
      refine wp_region_S (fun w' => ∃ u, w' = over (W0) u) [13, 12, 11, 10] [(0, 0), (0, 2), (0, 3), (0, 9), (1, 1), (0, 4), (0, 5), (0, 6), (0, 7), (1, 8), (2, 10), (2, 11), (2, 12), (2, 13)] (by kernel_rfl) (by kernel_rfl) (by exact ⟨_, below_over (by repeat (first | assumption | exact Below.refl _ _ | refine keep_drew ?_ | refine keep_alloc ?_ _ | refine keep_trans ?_ (by assumption)))⟩) ?_
      dsimp only [pickOps, nthOp]
      repeat (first | (refine wpS_skip rfl (fun K hK => ?_); go_big_quiet_op; refine hK _ ?_; clear hK K) | (refine wpS_quiet rfl rfl (fun K hK => ?_); go_big_quiet_op; refine hK _ ?_; clear hK K) | (refine wpS_loud ?_; go_wp2_with (first | (go_at_call 17; refine (HT.out _ (keep_drew (Below.refl _ _))).mono ?_; rintro _ w1 ⟨rfl, hb1⟩) | (go_at_call 18; refine (when_c _ _ _).mono ?_; rintro _ w2 ⟨rfl, rfl⟩) | (go_at_call 14; refine (HS.out _ (keep_trans (keep_drew (Below.refl _ _)) hb1)).mono ?_; rintro _ w3 ⟨rfl, hb3⟩) | (go_at_call 16; refine (first_c _ _ _ _ _ (IC.new3 _ _ _ _ _)).mono ?_; rintro _ w4 ⟨rfl, rfl⟩)); refine ⟨?_, ?_⟩; focus (exact ⟨_, below_over (by repeat (first | assumption | exact Below.refl _ _ | refine keep_drew ?_ | refine keep_alloc ?_ _ | refine keep_trans ?_ (by assumption)))⟩)))
      refine wpS_late _ _ _ rfl ?_
      dsimp only [List.map]
      go_wp2_with (first | (go_at_call 17; refine (HT.out _ (keep_drew (Below.refl _ _))).mono ?_; rintro _ w1 ⟨rfl, hb1⟩) | (go_at_call 18; refine (when_c _ _ _).mono ?_; rintro _ w2 ⟨rfl, rfl⟩) | (go_at_call 14; refine (HS.out _ (keep_trans (keep_drew (Below.refl _ _)) hb1)).mono ?_; rintro _ w3 ⟨rfl, hb3⟩) | (go_at_call 16; refine (first_c _ _ _ _ _ (IC.new3 _ _ _ _ _)).mono ?_; rintro _ w4 ⟨rfl, rfl⟩))
      refine NoPanic.normal ?_
      have hb4 : Below W0.heap.size W0 (w3.alloc (.cells #[.int .i64 (taskErr cells ls sum g), .int .i64 (whenV true 3), .int .i64 (smallErr cells ls sum g)] 32)) := keep_alloc (keep_trans (keep_trans (keep_drew (Below.refl _ _)) hb1) hb3) _
      generalize (w3.alloc (.cells #[.int .i64 (taskErr cells ls sum g), .int .i64 (whenV true 3), .int .i64 (smallErr cells ls sum g)] 32)) = w5 at hb4 ⊢
      clear hb1 hb3 HT HS hE
      have y0 := ((bcell hb4).1 _ _ hsz).trans x0
      have y1 := ((bcell hb4).1 _ _ hsz).trans x1
      have y2 := ((bcell hb4).1 _ _ hsz).trans x2
      have y3 := ((bcell hb4).1 _ _ hsz).trans x3
      clear x0 x1 x2 x3
      have hBW : Below w.heap.size w w5 := hB.trans (hb4.mono (by omega))
      have hv : firstL [taskErr cells ls sum g, whenV true 3, smallErr cells ls sum g] ≠ 0 := fun e => by have := firstL_zero e 3 (by simp [whenV]); omega
      have hv' : (firstL [taskErr cells ls sum g, whenV true 3, smallErr cells ls sum g] != 0) = true := by simpa using hv
      have HV := Go.Lib.hid hv
      clear hv
      generalize firstL [taskErr cells ls sum g, whenV true 3, smallErr cells ls sum g] = v at hE2 hv' HV ⊢
      go_wp2
      go_ret2
      refine ⟨none, 0, 0, ?_, ?_, Nat.le_refl _, hBW⟩
      · rw [hE2.out]; rfl
      · rw [hL.out, hE2.out, if_pos hv']; exact RC.none _
    · have ed1 : decide (most < 1) = false := by simpa using hs1
      have ed2 : decide (256 < most) = false := by simpa using hs2
      have hE2 : Hid (compE cells ls sum g most = firstL [taskErr cells ls sum g, whenV false 3, smallErr cells ls sum g]) := by have := hE.out; rw [ed1, ed2, Bool.false_or] at this; exact this
      go_enter Try.func8, Try.ntmps8
      go_wp2
      have hsz : w.heap.size < (w.alloc (.cells #[.int .i64 cells, .slice a n c, .int .i64 sum, .slice a' n' c'] 27)).heap.size := by simp
      have hB : Below w.heap.size w (w.alloc (.cells #[.int .i64 cells, .slice a n c, .int .i64 sum, .slice a' n' c'] 27)) := (Below.refl _ _).alloc (Nat.le_refl _) _
      have x0 : (w.alloc (.cells #[.int .i64 cells, .slice a n c, .int .i64 sum, .slice a' n' c'] 27)).cell? ⟨w.heap.size, 0, none⟩ = some (.int .i64 cells) := (box_cells w #[.int .i64 cells, .slice a n c, .int .i64 sum, .slice a' n' c'] 27 0).trans rfl
      have x1 : (w.alloc (.cells #[.int .i64 cells, .slice a n c, .int .i64 sum, .slice a' n' c'] 27)).cell? ⟨w.heap.size, 1, none⟩ = some (.slice a n c) := (box_cells w #[.int .i64 cells, .slice a n c, .int .i64 sum, .slice a' n' c'] 27 1).trans rfl
      have x2 : (w.alloc (.cells #[.int .i64 cells, .slice a n c, .int .i64 sum, .slice a' n' c'] 27)).cell? ⟨w.heap.size, 2, none⟩ = some (.int .i64 sum) := (box_cells w #[.int .i64 cells, .slice a n c, .int .i64 sum, .slice a' n' c'] 27 2).trans rfl
      have x3 : (w.alloc (.cells #[.int .i64 cells, .slice a n c, .int .i64 sum, .slice a' n' c'] 27)).cell? ⟨w.heap.size, 3, none⟩ = some (.slice a' n' c') := (box_cells w #[.int .i64 cells, .slice a n c, .int .i64 sum, .slice a' n' c'] 27 3).trans rfl
      generalize (w.alloc (.cells #[.int .i64 cells, .slice a n c, .int .i64 sum, .slice a' n' c'] 27)) = W0 at hsz hB x0 x1 x2 x3 ⊢
      have HT := Go.Lib.hid (fun w1 (hb : Below W0.heap.size W0 w1) => task_c a n c ls cells sum a' n' c' g w1 ((H.out.mono hB).mono hb) hcap ((H'.out.mono hB).mono hb) hcap')
      have HS := Go.Lib.hid (fun w1 (hb : Below W0.heap.size W0 w1) => small_c a n c ls cells sum a' n' c' g w1 ((H.out.mono hB).mono hb) hcap ((H'.out.mono hB).mono hb) hcap')
      clear h h'
      refine wp_region_S (fun w' => ∃ u, w' = over (W0) u) [13, 12, 11, 10] [(0, 0), (0, 2), (0, 3), (0, 9), (1, 1), (0, 4), (0, 5), (0, 6), (0, 7), (1, 8), (2, 10), (2, 11), (2, 12), (2, 13)] (by kernel_rfl) (by kernel_rfl) (by exact ⟨_, below_over (by repeat (first | assumption | exact Below.refl _ _ | refine keep_drew ?_ | refine keep_alloc ?_ _ | refine keep_trans ?_ (by assumption)))⟩) ?_
      dsimp only [pickOps, nthOp]
      repeat (first | (refine wpS_skip rfl (fun K hK => ?_); go_big_quiet_op; refine hK _ ?_; clear hK K) | (refine wpS_quiet rfl rfl (fun K hK => ?_); go_big_quiet_op; refine hK _ ?_; clear hK K) | (refine wpS_loud ?_; go_wp2_with (first | (go_at_call 17; refine (HT.out _ (keep_drew (Below.refl _ _))).mono ?_; rintro _ w1 ⟨rfl, hb1⟩) | (go_at_call 18; refine (when_c _ _ _).mono ?_; rintro _ w2 ⟨rfl, rfl⟩) | (go_at_call 14; refine (HS.out _ (keep_trans (keep_drew (Below.refl _ _)) hb1)).mono ?_; rintro _ w3 ⟨rfl, hb3⟩) | (go_at_call 16; refine (first_c _ _ _ _ _ (IC.new3 _ _ _ _ _)).mono ?_; rintro _ w4 ⟨rfl, rfl⟩)); refine ⟨?_, ?_⟩; focus (exact ⟨_, below_over (by repeat (first | assumption | exact Below.refl _ _ | refine keep_drew ?_ | refine keep_alloc ?_ _ | refine keep_trans ?_ (by assumption)))⟩)))
      refine wpS_late _ _ _ rfl ?_
      dsimp only [List.map]
      go_wp2_with (first | (go_at_call 17; refine (HT.out _ (keep_drew (Below.refl _ _))).mono ?_; rintro _ w1 ⟨rfl, hb1⟩) | (go_at_call 18; refine (when_c _ _ _).mono ?_; rintro _ w2 ⟨rfl, rfl⟩) | (go_at_call 14; refine (HS.out _ (keep_trans (keep_drew (Below.refl _ _)) hb1)).mono ?_; rintro _ w3 ⟨rfl, hb3⟩) | (go_at_call 16; refine (first_c _ _ _ _ _ (IC.new3 _ _ _ _ _)).mono ?_; rintro _ w4 ⟨rfl, rfl⟩))
      refine NoPanic.normal ?_
      have hb4 : Below W0.heap.size W0 (w3.alloc (.cells #[.int .i64 (taskErr cells ls sum g), .int .i64 (whenV false 3), .int .i64 (smallErr cells ls sum g)] 32)) := keep_alloc (keep_trans (keep_trans (keep_drew (Below.refl _ _)) hb1) hb3) _
      generalize (w3.alloc (.cells #[.int .i64 (taskErr cells ls sum g), .int .i64 (whenV false 3), .int .i64 (smallErr cells ls sum g)] 32)) = w5 at hb4 ⊢
      clear hb1 hb3 HT HS hE
      have y0 := ((bcell hb4).1 _ _ hsz).trans x0
      have y1 := ((bcell hb4).1 _ _ hsz).trans x1
      have y2 := ((bcell hb4).1 _ _ hsz).trans x2
      have y3 := ((bcell hb4).1 _ _ hsz).trans x3
      clear x0 x1 x2 x3
      have hBW : Below w.heap.size w w5 := hB.trans (hb4.mono (by omega))
      by_cases hv : firstL [taskErr cells ls sum g, whenV false 3, smallErr cells ls sum g] ≠ 0
      · have hv' : (firstL [taskErr cells ls sum g, whenV false 3, smallErr cells ls sum g] != 0) = true := by simpa using hv
        have HV := Go.Lib.hid hv
        clear hv
        generalize firstL [taskErr cells ls sum g, whenV false 3, smallErr cells ls sum g] = v at hE2 hv' HV ⊢
        go_wp2
        go_ret2
        refine ⟨none, 0, 0, ?_, ?_, Nat.le_refl _, hBW⟩
        · rw [hE2.out]; rfl
        · rw [hL.out, hE2.out, if_pos hv']; exact RC.none _
      · have hv0 : firstL [taskErr cells ls sum g, whenV false 3, smallErr cells ls sum g] = 0 := by omega
        have hv' : (firstL [taskErr cells ls sum g, whenV false 3, smallErr cells ls sum g] != 0) = false := by rw [hv0]; rfl
        have hte : taskErr cells ls sum g = 0 := firstL_zero hv0 _ (by simp)
        have G := Go.Lib.hid (goodTask hte)
        have HV := Go.Lib.hid hv0
        clear hv hv0 hte
        have hl' := H'.out.len
        have hl := H.out.len
        have hm2 : n' ≤ 256 := by have := G.out.len; have := G.out.cells2; omega
        have hn1 : n ≤ 1000000 := by have := G.out.lines; omega
        have hOlt : ∀ k, k < w.heap.size → k < w5.heap.size := fun k hk => by have := hBW.size; omega
        have HA := Go.Lib.hid (all_c a n c ls cells sum a' n' c' g w5 (H.out.mono hBW) hcap hn1 (H'.out.mono hBW) hm2 (fun k hk => by have := G.out.num k (by omega); have := G.out.cells2; omega) (fun l hl => by have h1 := G.out.lineLen hl; have h2 := G.out.len; exact ⟨h1.1, fun x hx => by have := h1.2 x hx; omega⟩) (fun k => k < w.heap.size) hOlt (old_lines H.out hBW))
        generalize firstL [taskErr cells ls sum g, whenV false 3, smallErr cells ls sum g] = v at hE2 hv' HV ⊢
        have hm1 : 1 ≤ most := by omega
        have hm3 : most ≤ 1000000 := by omega
        go_wp2_with (first | (go_at_call 15; refine HA.out.mono ?_; rintro _ w6 ⟨bx, b, Im, ao, co, al, cl, vf, rfl, hbx1, hbx2, hbx3, hbx4, hbx5, hbx6, hsr, hb3, hb4, hb5, hb6⟩) | (go_at_call 19; refine (few_c b bx Im _ vf _ [] w6 hsr G.out.even hbx6 hbx2 (mut0 hbx3 hbx4) w.heap.size (by have := hBW.size; have := hb3.size; omega) (mut0_ge (by have := hBW.size; omega) (fun k e => by have h1 := hb5 k e; have h2 := hBW.size; omega)) most hm1 hm3).mono ?_; rintro _ w7 ⟨ar, nr, cr, rfl, hrc, hcr, hbl⟩))
        go_ret2
        refine ⟨ar, nr, cr, ?_, ?_, hcr, (hBW.trans (hb3.mono (by have := hBW.size; omega))).trans hbl⟩
        · rw [hE2.out, HV.out]; rfl
        · rw [hL.out, hE2.out, if_neg (by rw [HV.out]; decide)]; exact hrc

end Go.Proofs.Ytcblpobiefmjmaa
