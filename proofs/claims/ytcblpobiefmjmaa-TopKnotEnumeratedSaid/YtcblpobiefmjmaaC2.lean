/- Contracts: the reference's checks of a system and a task. -/
import Derived.Test.YtcblpobiefmjmaaC1
namespace Go.Proofs.Ytcblpobiefmjmaa
open Go Go.RowKit
attribute [local go_sem] over_cell

theorem lineBad_lo {cells : Int} {l : List Int} {k : Nat} (h : l[k]?.getD 0 < 0) : lineBad cells l k = 10 := by unfold lineBad; rw [if_pos (.inl h)]
theorem lineBad_hi {cells : Int} {l : List Int} {k : Nat} (h : cells ≤ l[k]?.getD 0) : lineBad cells l k = 10 := by unfold lineBad; rw [if_pos (.inr h)]
theorem lineBad_ord {cells : Int} {l : List Int} {k : Nat} (h0 : ¬ l[k]?.getD 0 < 0) (h1 : ¬ cells ≤ l[k]?.getD 0) (hk : 0 < k) (h : l[k]?.getD 0 ≤ l[k - 1]?.getD 0) : lineBad cells l k = 11 := by
  unfold lineBad; rw [if_neg (by omega), if_pos ⟨hk, h⟩]
theorem lineBad_ok {cells : Int} {l : List Int} {k : Nat} (h0 : ¬ l[k]?.getD 0 < 0) (h1 : ¬ cells ≤ l[k]?.getD 0) (h : k = 0 ∨ ¬ l[k]?.getD 0 ≤ l[k - 1]?.getD 0) : lineBad cells l k = 0 := by
  unfold lineBad; rw [if_neg (by omega), if_neg (by omega)]

theorem upto_snoc {f : Nat → Int} {k : Nat} (h : ∀ j, j < k → f j = 0) (hk : f k = 0) : ∀ j, j < k + 1 → f j = 0 := by
  intro j hj
  by_cases e : j = k
  · rw [e]; exact hk
  · exact h j (by omega)

set_option maxHeartbeats 2000000 in
theorem sys2_c (a : Option Addr) (n c : Nat) (ls : List (List Int)) (cells : Int) (w : World) (h : RC w a n ls) (hcap : n ≤ c) :
    Calls Try.prog 24 #[.agg #[.int .i64 cells, .slice a n c]] w fun e w' => e = .returned (.int .i64 (sysErr cells ls)) ∧ Below w.heap.size w w' := by
  have hm := h.small
  by_cases h1 : cells < 1
  · have hf : Hid (sysErr cells ls = 3) := by unfold Hid sysErr; rw [if_pos (.inl h1)]
    have hd : decide (cells < 1) = true := by simpa using h1
    go_enter Try.func24, Try.ntmps24
    go_wp2
    go_ret
    exact ⟨ret_int hf.out.symm, (Below.refl _ _).alloc (Nat.le_refl _) _⟩
  by_cases h2 : 256 < cells
  · have hf : Hid (sysErr cells ls = 3) := by unfold Hid sysErr; rw [if_pos (.inr h2)]
    have hd1 : decide (cells < 1) = false := by simpa using h1
    have hd : decide (256 < cells) = true := by simpa using h2
    go_enter Try.func24, Try.ntmps24
    go_wp2
    go_ret
    exact ⟨ret_int hf.out.symm, (Below.refl _ _).alloc (Nat.le_refl _) _⟩
  have hd1 : decide (cells < 1) = false := by simpa using h1
  have hd2 : decide (256 < cells) = false := by simpa using h2
  by_cases h3 : 128 < n
  · have hf : Hid (sysErr cells ls = 5) := by unfold Hid sysErr; rw [if_neg (by omega), if_pos (by rw [h.len]; exact h3)]
    go_enter Try.func24, Try.ntmps24
    go_wp2
    go_ret
    exact ⟨ret_int hf.out.symm, (Below.refl _ _).alloc (Nat.le_refl _) _⟩
  have hf : Hid (sysErr cells ls = errs (lineErr cells ls) n) := by unfold Hid sysErr; rw [if_neg (by omega), if_neg (by rw [h.len]; exact h3), h.len]
  go_enter Try.func24, Try.ntmps24
  go_wp2
  have hsz : w.heap.size < (w.alloc (.cells #[.int .i64 cells, .slice a n c] 24)).heap.size := by simp
  have hx0 := box_cells w #[.int .i64 cells, .slice a n c] 24 0
  have hx1 := box_cells w #[.int .i64 cells, .slice a n c] 24 1
  have hB : Below w.heap.size w (w.alloc (.cells #[.int .i64 cells, .slice a n c] 24)) := (Below.refl _ _).alloc (Nat.le_refl _) _
  generalize (w.alloc (.cells #[.int .i64 cells, .slice a n c] 24)) = W0 at hsz hx0 hx1 hB ⊢
  have h0 := h.mono hB
  have hx0' : W0.cell? ⟨w.heap.size, 0, none⟩ = some (.int .i64 cells) := by simpa using hx0
  have hx1' : W0.cell? ⟨w.heap.size, 1, none⟩ = some (.slice a n c) := by simpa using hx1
  have HX0 := Go.Lib.hid hx0'
  have HX1 := Go.Lib.hid hx1'
  clear hx0 hx1 hx0' hx1'
  go_loopw [3, 4, 5] (fun i _ _ wr => ∃ k : Nat, k ≤ n ∧ i = .int .i64 k ∧ Hid (∀ j, j < k → lineErr cells ls j = 0) ∧ Below W0.heap.size W0 wr) (fun i _ _ _ => n - (intOf i).toNat)
  case atStart => exact ⟨0, by omega, rfl, fun j hj => absurd hj (by omega), Below.refl _ _⟩
  case round =>
    obtain ⟨k, hk, rfl, hn, hbr⟩ := hrel
    obtain ⟨wo, rfl⟩ : ∃ wo : World, wo = wr := ⟨_, rfl⟩
    have x0 : wo.cell? ⟨w.heap.size, 0, none⟩ = some (.int .i64 cells) := ((bcell hbr).1 _ _ hsz).trans HX0.out
    have x1 : wo.cell? ⟨w.heap.size, 1, none⟩ = some (.slice a n c) := ((bcell hbr).1 _ _ hsz).trans HX1.out
    by_cases hlt : k < n
    · obtain ⟨b, off, a1, n1, c1, rfl, hb, hc, hi, hic1⟩ := (h0.mono hbr).2 k hlt
      have hm1 := hi.small
      by_cases hz : n1 = 0
      · subst hz
        have hv : Hid (lineErr cells ls k = 12) := by unfold Hid lineErr; rw [if_pos hi.len]
        go_wp2
        go_ret
        exact ⟨ret_int (by rw [hf.out, errs_found hn.out hlt (by rw [hv.out]; omega), hv.out]), hB.trans (hbr.mono (by omega))⟩
      · have hz' : ((n1 : Int) == 0) = false := by simpa using hz
        have hv : Hid (errs (lineBad cells (ls[k]?.getD [])) n1 ≠ 0 → lineErr cells ls k = errs (lineBad cells (ls[k]?.getD [])) n1) := by
          intro he
          unfold lineErr; rw [if_neg (by rw [hi.len]; exact hz), hi.len, if_pos he]
        go_wp2
        go_loopw [5] (fun i2 wr => ∃ k2 : Nat, k2 ≤ n1 ∧ i2 = .int .i64 k2 ∧ Hid (∀ j, j < k2 → lineBad cells (ls[k]?.getD []) j = 0) ∧ Below wo.heap.size wo wr) (fun i2 _ => n1 - (intOf i2).toNat)
        case atStart => exact ⟨0, by omega, rfl, fun j hj => absurd hj (by omega), Below.refl _ _⟩
        case round =>
          obtain ⟨k2, hk2, rfl, hn2, hbr2⟩ := hrel
          have hs2 := hbr2.size
          have hsr : w.heap.size < wr.heap.size := by have := hbr.size; omega
          have y0 : wr.cell? ⟨w.heap.size, 0, none⟩ = some (.int .i64 cells) := ((bcell hbr2).1 _ _ (by have := hbr.size; omega)).trans x0
          have y1 : wr.cell? ⟨w.heap.size, 1, none⟩ = some (.slice (some ⟨b, off, none⟩) n c) := ((bcell hbr2).1 _ _ (by have := hbr.size; omega)).trans x1
          by_cases hlt2 : k2 < n1
          · obtain ⟨b2, off2, rfl, hb2, hc2⟩ := (hi.mono hbr2).2 k2 hlt2
            have hli : (k2 : Int) < (n1 : Int) := by omega
            have hl0 : (0 : Int) ≤ (k2 : Int) := by omega
            have hlx : (k : Int) < (n : Int) := by omega
            have hlx0 : (0 : Int) ≤ (k : Int) := by omega
            by_cases g1 : (ls[k]?.getD [])[k2]?.getD 0 < 0
            · have e1 : decide ((ls[k]?.getD [])[k2]?.getD 0 < 0) = true := by simpa using g1
              have hE := Go.Lib.hid (lineBad_lo (cells := cells) g1)
              go_wp2
              refine wp_region_S (fun w' => ∃ u, w' = over (wr) u) [] [(0, 0), (0, 1), (0, 2), (0, 3), (0, 4), (0, 5), (0, 6), (0, 7), (0, 8), (0, 9), (0, 10), (0, 11), (0, 12), (0, 13)] (by kernel_rfl) (by kernel_rfl) (by exact ⟨_, below_over (by repeat (first | assumption | exact Below.refl _ _ | refine keep_drew ?_ | refine keep_alloc ?_ _ | refine keep_trans ?_ (by assumption)))⟩) ?_
              dsimp only [pickOps, nthOp]
              repeat (first | (refine wpS_skip rfl (fun K hK => ?_); go_big_quiet_op; refine hK _ ?_; clear hK K) | (refine wpS_quiet rfl rfl (fun K hK => ?_); go_big_quiet_op; refine hK _ ?_; clear hK K))
              refine wpS_end ?_
              go_wp2
              go_ret
              have he := errs_found hn2.out hlt2 (by rw [hE.out]; omega)
              rw [hE.out] at he
              exact ⟨ret_int (by rw [hf.out, errs_found hn.out hlt (by rw [hv.out (by rw [he]; omega), he]; omega), hv.out (by rw [he]; omega), he]), (hB.trans (hbr.mono (by omega))).trans ((hbr2.mono (by have := hbr.size; omega)).drew)⟩
            have f1 : decide ((ls[k]?.getD [])[k2]?.getD 0 < 0) = false := by simpa using g1
            by_cases g2 : cells ≤ (ls[k]?.getD [])[k2]?.getD 0
            · have e2 : decide (cells ≤ (ls[k]?.getD [])[k2]?.getD 0) = true := by simpa using g2
              have hE := Go.Lib.hid (lineBad_hi (cells := cells) g2)
              go_wp2
              refine wp_region_S (fun w' => ∃ u, w' = over (wr) u) [] [(0, 0), (0, 1), (0, 2), (0, 3), (0, 4), (0, 5), (0, 6), (0, 7), (0, 8), (0, 9), (0, 10), (0, 11), (0, 12), (0, 13)] (by kernel_rfl) (by kernel_rfl) (by exact ⟨_, below_over (by repeat (first | assumption | exact Below.refl _ _ | refine keep_drew ?_ | refine keep_alloc ?_ _ | refine keep_trans ?_ (by assumption)))⟩) ?_
              dsimp only [pickOps, nthOp]
              repeat (first | (refine wpS_skip rfl (fun K hK => ?_); go_big_quiet_op; refine hK _ ?_; clear hK K) | (refine wpS_quiet rfl rfl (fun K hK => ?_); go_big_quiet_op; refine hK _ ?_; clear hK K))
              refine wpS_end ?_
              go_wp2
              go_ret
              have he := errs_found hn2.out hlt2 (by rw [hE.out]; omega)
              rw [hE.out] at he
              exact ⟨ret_int (by rw [hf.out, errs_found hn.out hlt (by rw [hv.out (by rw [he]; omega), he]; omega), hv.out (by rw [he]; omega), he]), (hB.trans (hbr.mono (by omega))).trans ((hbr2.mono (by have := hbr.size; omega)).drew)⟩
            have f2 : decide (cells ≤ (ls[k]?.getD [])[k2]?.getD 0) = false := by simpa using g2
            by_cases g3 : k2 = 0
            · have hE := Go.Lib.hid (lineBad_ok (cells := cells) g1 g2 (.inl g3))
              have e3 : decide (0 < (k2 : Int)) = false := by simp; omega
              have e3' : decide (0 < k2) = false := by simp; omega
              clear g3
              go_wp2
              refine wp_region_S (fun w' => ∃ u, w' = over (wr) u) [] [(0, 0), (0, 1), (0, 2), (0, 3), (0, 4), (0, 5), (0, 6), (0, 7), (0, 8), (0, 9), (0, 10), (0, 11), (0, 12), (0, 13)] (by kernel_rfl) (by kernel_rfl) (by exact ⟨_, below_over (by repeat (first | assumption | exact Below.refl _ _ | refine keep_drew ?_ | refine keep_alloc ?_ _ | refine keep_trans ?_ (by assumption)))⟩) ?_
              dsimp only [pickOps, nthOp]
              repeat (first | (refine wpS_skip rfl (fun K hK => ?_); go_big_quiet_op; refine hK _ ?_; clear hK K) | (refine wpS_quiet rfl rfl (fun K hK => ?_); go_big_quiet_op; refine hK _ ?_; clear hK K))
              refine wpS_end ?_
              go_wp2
              refine wp_region_S (fun w' => ∃ u, w' = over (wr) u) [] [(0, 0), (0, 1), (0, 2), (0, 3), (0, 4), (0, 5), (0, 6), (0, 7), (0, 8), (0, 9), (0, 10), (0, 11), (0, 12), (0, 13)] (by kernel_rfl) (by kernel_rfl) (by exact ⟨_, below_over (by repeat (first | assumption | exact Below.refl _ _ | refine keep_drew ?_ | refine keep_alloc ?_ _ | refine keep_trans ?_ (by assumption)))⟩) ?_
              dsimp only [pickOps, nthOp]
              repeat (first | (refine wpS_skip rfl (fun K hK => ?_); go_big_quiet_op; refine hK _ ?_; clear hK K) | (refine wpS_quiet rfl rfl (fun K hK => ?_); go_big_quiet_op; refine hK _ ?_; clear hK K))
              refine wpS_end ?_
              go_wp2
              go_roundw
              case rel => exact ⟨k2 + 1, by omega, by go_num, upto_snoc hn2.out hE.out, hbr2.drew.drew⟩
              case measure => simp [intOf]; omega
            have e3 : decide (0 < (k2 : Int)) = true := by simp; omega
            have e3' : decide (0 < k2) = true := by simp; omega
            have gp : (0 : Int) < (k2 : Int) := by omega
            have gn : (0 : Int) ≤ (k2 : Int) - 1 := by omega
            have gl : (k2 : Int) - 1 < (n1 : Int) := by omega
            have hcp : wr.cell? ⟨b2, off2 + ((k2 : Int) - 1).toNat, none⟩ = some (.int .i64 ((ls[k]?.getD [])[k2 - 1]?.getD 0)) := by
              obtain ⟨b3, off3, e, _, hc3⟩ := (hi.mono hbr2).2 (k2 - 1) (by omega)
              simp only [Option.some.injEq, Addr.mk.injEq, and_true] at e
              obtain ⟨rfl, rfl⟩ := e
              rw [show ((k2 : Int) - 1).toNat = k2 - 1 from by omega]
              exact hc3
            have hcp' : wr.cell? ⟨b2, off2 + (k2 - 1), none⟩ = some (.int .i64 ((ls[k]?.getD [])[k2 - 1]?.getD 0)) := by
              rw [show ((k2 : Int) - 1).toNat = k2 - 1 from by omega] at hcp
              exact hcp
            by_cases g4 : (ls[k]?.getD [])[k2]?.getD 0 ≤ (ls[k]?.getD [])[k2 - 1]?.getD 0
            · have e4 : decide ((ls[k]?.getD [])[k2]?.getD 0 ≤ (ls[k]?.getD [])[k2 - 1]?.getD 0) = true := by simpa using g4
              have hE := Go.Lib.hid (lineBad_ord (cells := cells) g1 g2 (by omega) g4)
              go_wp2
              refine wp_region_S (fun w' => ∃ u, w' = over (wr) u) [] [(0, 0), (0, 1), (0, 2), (0, 3), (0, 4), (0, 5), (0, 6), (0, 7), (0, 8), (0, 9), (0, 10), (0, 11), (0, 12), (0, 13)] (by kernel_rfl) (by kernel_rfl) (by exact ⟨_, below_over (by repeat (first | assumption | exact Below.refl _ _ | refine keep_drew ?_ | refine keep_alloc ?_ _ | refine keep_trans ?_ (by assumption)))⟩) ?_
              dsimp only [pickOps, nthOp]
              repeat (first | (refine wpS_skip rfl (fun K hK => ?_); go_big_quiet_op; refine hK _ ?_; clear hK K) | (refine wpS_quiet rfl rfl (fun K hK => ?_); go_big_quiet_op; refine hK _ ?_; clear hK K))
              refine wpS_end ?_
              go_wp2
              refine wp_region_S (fun w' => ∃ u, w' = over (wr) u) [] [(0, 0), (0, 1), (0, 2), (0, 3), (0, 4), (0, 5), (0, 6), (0, 7), (0, 8), (0, 9), (0, 10), (0, 11), (0, 12), (0, 13)] (by kernel_rfl) (by kernel_rfl) (by exact ⟨_, below_over (by repeat (first | assumption | exact Below.refl _ _ | refine keep_drew ?_ | refine keep_alloc ?_ _ | refine keep_trans ?_ (by assumption)))⟩) ?_
              dsimp only [pickOps, nthOp]
              repeat (first | (refine wpS_skip rfl (fun K hK => ?_); go_big_quiet_op; refine hK _ ?_; clear hK K) | (refine wpS_quiet rfl rfl (fun K hK => ?_); go_big_quiet_op; refine hK _ ?_; clear hK K))
              refine wpS_end ?_
              go_wp2
              go_ret
              have he := errs_found hn2.out hlt2 (by rw [hE.out]; omega)
              rw [hE.out] at he
              exact ⟨ret_int (by rw [hf.out, errs_found hn.out hlt (by rw [hv.out (by rw [he]; omega), he]; omega), hv.out (by rw [he]; omega), he]), (hB.trans (hbr.mono (by omega))).trans ((hbr2.mono (by have := hbr.size; omega)).drew.drew)⟩
            · have e4 : decide ((ls[k]?.getD [])[k2]?.getD 0 ≤ (ls[k]?.getD [])[k2 - 1]?.getD 0) = false := by simpa using g4
              have hE := Go.Lib.hid (lineBad_ok (cells := cells) g1 g2 (.inr g4))
              go_wp2
              refine wp_region_S (fun w' => ∃ u, w' = over (wr) u) [] [(0, 0), (0, 1), (0, 2), (0, 3), (0, 4), (0, 5), (0, 6), (0, 7), (0, 8), (0, 9), (0, 10), (0, 11), (0, 12), (0, 13)] (by kernel_rfl) (by kernel_rfl) (by exact ⟨_, below_over (by repeat (first | assumption | exact Below.refl _ _ | refine keep_drew ?_ | refine keep_alloc ?_ _ | refine keep_trans ?_ (by assumption)))⟩) ?_
              dsimp only [pickOps, nthOp]
              repeat (first | (refine wpS_skip rfl (fun K hK => ?_); go_big_quiet_op; refine hK _ ?_; clear hK K) | (refine wpS_quiet rfl rfl (fun K hK => ?_); go_big_quiet_op; refine hK _ ?_; clear hK K))
              refine wpS_end ?_
              go_wp2
              refine wp_region_S (fun w' => ∃ u, w' = over (wr) u) [] [(0, 0), (0, 1), (0, 2), (0, 3), (0, 4), (0, 5), (0, 6), (0, 7), (0, 8), (0, 9), (0, 10), (0, 11), (0, 12), (0, 13)] (by kernel_rfl) (by kernel_rfl) (by exact ⟨_, below_over (by repeat (first | assumption | exact Below.refl _ _ | refine keep_drew ?_ | refine keep_alloc ?_ _ | refine keep_trans ?_ (by assumption)))⟩) ?_
              dsimp only [pickOps, nthOp]
              repeat (first | (refine wpS_skip rfl (fun K hK => ?_); go_big_quiet_op; refine hK _ ?_; clear hK K) | (refine wpS_quiet rfl rfl (fun K hK => ?_); go_big_quiet_op; refine hK _ ?_; clear hK K))
              refine wpS_end ?_
              go_wp2
              go_roundw
              case rel => exact ⟨k2 + 1, by omega, by go_num, upto_snoc hn2.out hE.out, hbr2.drew.drew⟩
              case measure => simp [intOf]; omega
          · have e : k2 = n1 := by omega
            subst e
            have he := Go.Lib.hid (errs_none hn2.out)
            have hlx : (k : Int) < (n : Int) := by omega
            have hlx0 : (0 : Int) ≤ (k : Int) := by omega
            have hkc : k ≤ c := by omega
            have hrc : RC wr (some ⟨b, off, none⟩) k (ls.take k) := ((h0.mono hbr).mono hbr2).take k hk
            have hic := hi.mono hbr2
            have hw : Hid (lineErr cells ls k = if hasLineB (ls.take k) (ls[k]?.getD []) then 9 else 0) := by
              unfold Hid lineErr; rw [if_neg (by rw [hi.len]; exact hz), hi.len, if_neg (by rw [he.out]; omega)]
            go_wp2_with (go_at_call 36; refine (hasLine_c _ _ _ _ _ _ _ _ _ hrc hic).mono ?_; rintro e w1 ⟨rfl, hb1⟩)
            · have hh : hasLineB (ls.take k) (ls[k]?.getD []) = true := by assumption
              go_ret
              rw [hh, if_pos rfl] at hw
              exact ⟨ret_int (by rw [hf.out, errs_found hn.out hlt (by rw [hw.out]; omega), hw.out]), ((hB.trans (hbr.mono (by omega))).trans (hbr2.mono (by have := hbr.size; omega))).trans (hb1.mono (by have := hbr.size; omega))⟩
            · have hh : hasLineB (ls.take k) (ls[k]?.getD []) = false := by assumption
              rw [hh, if_neg (by simp)] at hw
              go_roundw
              case rel => exact ⟨k + 1, by omega, by go_num, upto_snoc hn.out hw.out, (hbr.trans (hbr2.mono hbr.size)).trans (hb1.mono (by have := hbr.size; omega))⟩
              case measure => simp [intOf]; omega
    · go_wp2
      go_ret
      have e : k = n := by omega
      subst e
      exact ⟨ret_int (by rw [hf.out, errs_none hn.out]), hB.trans (hbr.mono (by omega))⟩

end Go.Proofs.Ytcblpobiefmjmaa
