/- Contracts: the program's check of a system. -/
import Derived.Test.YtcblpobiefmjmaaC8
namespace Go.Proofs.Ytcblpobiefmjmaa
open Go Go.RowKit
attribute [local go_sem] over_cell

def outB (lo hi x : Int) : Bool := decide (x < lo) || decide (hi < x)

set_option maxHeartbeats 1000000 in
theorem from1_c (x lo hi : Int) (b1 b2 : Nat) (w : World) (h1 : w.cell? ⟨b1, 0, none⟩ = some (.int .i64 lo)) (h2 : w.cell? ⟨b2, 0, none⟩ = some (.int .i64 hi)) :
    Calls Try.prog 56 #[.int .i64 x, .pointer (some ⟨b1, 0, none⟩), .pointer (some ⟨b2, 0, none⟩)] w fun e w' => e = .returned (.bool (outB lo hi x)) ∧ w = w' := by
  by_cases hx : x < lo
  · have hd : decide (x < lo) = true := by simpa using hx
    have hE : Hid (outB lo hi x = true) := by simp [Hid, outB, hx]
    go_enter Try.func56, Try.ntmps56
    go_wp2
    go_ret
    exact ⟨ret_bool hE.out.symm, rfl⟩
  · have hd : decide (x < lo) = false := by simpa using hx
    have hE : Hid (outB lo hi x = decide (hi < x)) := by simp [Hid, outB, hx]
    go_enter Try.func56, Try.ntmps56
    go_wp2
    go_ret
    exact ⟨ret_bool hE.out.symm, rfl⟩

theorem from1_fn : ∀ (args : Array Value) (w : World), Sem.run Try.prog (callFunc 56 args) w = .ok (.enter 56 args) w := by
  intro args w; kernel_rfl

set_option maxHeartbeats 1000000 in
theorem from_c (a : Option Addr) (n c : Nat) (xs : List Int) (lo hi : Int) (w : World) (h : IC w a n xs) :
    Calls Try.prog 44 #[.int .i64 lo, .int .i64 hi, .slice a n c] w fun e w' => e = .returned (.int .i64 (whenV (anyP (fun k => outB lo hi (xs[k]?.getD 0)) n) 3)) ∧ Below w.heap.size w w' := by
  have hB2 : Below w.heap.size w ((w.alloc (.cells #[.int .i64 lo] 3)).alloc (.cells #[.int .i64 hi] 3)) := keep_alloc (keep_alloc (Below.refl _ _) _) _
  have hc1 : ((w.alloc (.cells #[.int .i64 lo] 3)).alloc (.cells #[.int .i64 hi] 3)).cell? ⟨w.heap.size, 0, none⟩ = some (.int .i64 lo) := by
    rw [((bcell (W := w.alloc (.cells #[.int .i64 lo] 3)) (keep_alloc (Below.refl _ _) _)).1 _ _ (by simp)), box_cells]; rfl
  have hc2 : ((w.alloc (.cells #[.int .i64 lo] 3)).alloc (.cells #[.int .i64 hi] 3)).cell? ⟨w.heap.size + 1, 0, none⟩ = some (.int .i64 hi) := by
    have := box_cells (w.alloc (.cells #[.int .i64 lo] 3)) #[.int .i64 hi] 3 0
    rw [World.size_alloc] at this
    exact this.trans rfl
  have hs2 : ((w.alloc (.cells #[.int .i64 lo] 3)).alloc (.cells #[.int .i64 hi] 3)).heap.size = w.heap.size + 2 := by simp
  have HI := Go.Lib.hid (containsFuncI_c a n c xs 56 #[.pointer (some ⟨w.heap.size, 0, none⟩), .pointer (some ⟨w.heap.size + 1, 0, none⟩)] (fun k => outB lo hi (xs[k]?.getD 0)) _ (h.mono hB2) from1_fn
    (fun k _ w' hb => (from1_c _ lo hi _ _ w' (((bcell hb).1 _ _ (by omega)).trans hc1) (((bcell hb).1 _ _ (by omega)).trans hc2)).mono (fun e w'' ⟨he, hw⟩ => ⟨he, hw ▸ Below.refl _ _⟩)))
  have HB := Go.Lib.hid hB2
  clear hc1 hc2 hs2 hB2
  generalize anyP (fun k => outB lo hi (xs[k]?.getD 0)) n = r at HI ⊢
  go_enter Try.func44, Try.ntmps44
  go_wp2_with (first | (go_at_call 55; refine HI.out.mono ?_; rintro e w1 ⟨rfl, hb1⟩) | (go_at_call 45; refine (lwhen_c _ _ _).mono ?_; rintro e w2 ⟨rfl, rfl⟩))
  go_ret
  exact ⟨rfl, keep_trans HB.out hb1⟩

set_option maxHeartbeats 1000000 in
theorem checkLine1_c (a a' : Option Addr) (n n' c c' : Nat) (xs ys : List Int) (B : Nat) (w : World) (h : IC w a n xs) (h' : IC w a' n' ys) (hc : w.cell? ⟨B, 0, none⟩ = some (.slice a' n' c')) :
    Calls Try.prog 57 #[.slice a n c, .pointer (some ⟨B, 0, none⟩)] w fun e w' => e = .returned (.bool (sameB xs ys)) ∧ Below w.heap.size w w' := by
  have HI := Go.Lib.hid (equal_c a a' n n' c c' xs ys w h h')
  go_enter Try.func57, Try.ntmps57
  go_wp2_with (go_at_call 58; refine HI.out.mono ?_; rintro e w1 ⟨rfl, hb1⟩)
  go_ret
  exact ⟨rfl, hb1⟩

theorem checkLine1_fn : ∀ (args : Array Value) (w : World), Sem.run Try.prog (callFunc 57 args) w = .ok (.enter 57 args) w := by
  intro args w; kernel_rfl

theorem anyP_line (ls : List (List Int)) (l : List Int) : anyP (fun k => sameB (ls[k]?.getD []) l) ls.length = hasLineB ls l := by
  rw [Bool.eq_iff_iff]
  simp only [anyP, hasLineB, List.any_eq_true, List.mem_range, sameB, decide_eq_true_eq, List.contains_iff_mem]
  constructor
  · rintro ⟨k, hk, e⟩
    rw [← e, List.getElem?_eq_getElem hk]
    simp
  · intro hm
    obtain ⟨k, hk, e⟩ := List.getElem_of_mem hm
    exact ⟨k, hk, by rw [List.getElem?_eq_getElem hk]; simp [e]⟩

theorem lineBad_first (cells : Int) (l : List Int) (k : Nat) : lineBad cells l k = firstL [whenV (decide (l[k]?.getD 0 < 0) || decide (cells ≤ l[k]?.getD 0)) 10, whenV (decide (0 < k) && decide (l[k]?.getD 0 ≤ l[k - 1]?.getD 0)) 11] := by
  unfold lineBad
  by_cases h1 : l[k]?.getD 0 < 0
  · rw [if_pos (.inl h1)]; simp [h1, whenV, firstL]
  by_cases h2 : cells ≤ l[k]?.getD 0
  · rw [if_pos (.inr h2)]; simp [h2, whenV, firstL]
  rw [if_neg (by omega)]
  by_cases h3 : 0 < k ∧ l[k]?.getD 0 ≤ l[k - 1]?.getD 0
  · rw [if_pos h3]; simp [h1, h2, h3.1, h3.2, whenV, firstL]
  · rw [if_neg h3]
    have : (decide (0 < k) && decide (l[k]?.getD 0 ≤ l[k - 1]?.getD 0)) = false := by
      by_cases a : 0 < k
      · have b : ¬ l[k]?.getD 0 ≤ l[k - 1]?.getD 0 := fun b => h3 ⟨a, b⟩
        simp [b]
      · simp [a]
    rw [this]
    simp [h1, h2, whenV, firstL]

set_option maxRecDepth 100000 in
set_option maxHeartbeats 4000000 in
theorem checkLine_c (a : Option Addr) (n c : Nat) (ls : List (List Int)) (cells : Int) (i : Nat) (w : World) (h : RC w a n ls) (hcap : n ≤ c) (hi : i < n) :
    Calls Try.prog 46 #[.agg #[.int .i64 cells, .slice a n c], .int .i64 i] w fun e w' => e = .returned (.int .i64 (lineErr cells ls i)) ∧ Below w.heap.size w w' := by
  have hm := h.small
  obtain ⟨b, off, a1, n1, c1, rfl, hb, hc, hI, hic⟩ := (h.mono (keep_alloc (Below.refl _ _) (.cells #[.int .i64 cells, .slice a n c] 24))).2 i hi
  have hm1 := hI.small
  have hii : (i : Int) < (n : Int) := by omega
  have hi0 : (0 : Int) ≤ (i : Int) := by omega
  have hicc : i ≤ c := by omega
  by_cases hz : n1 = 0
  · subst hz
    have hv : Hid (lineErr cells ls i = 12) := by unfold Hid lineErr; rw [if_pos hI.len]
    go_enter Try.func46, Try.ntmps46
    go_wp2
    go_ret
    exact ⟨ret_int hv.out.symm, keep_alloc (keep_alloc (Below.refl _ _) _) _⟩
  have hz' : ((n1 : Int) == 0) = false := by simpa using hz
  go_enter Try.func46, Try.ntmps46
  go_wp2
  have hB2 : Below w.heap.size w ((w.alloc (.cells #[.int .i64 cells, .slice (some ⟨b, off, none⟩) n c] 24)).alloc (.cells #[.slice a1 n1 c1] 25)) := keep_alloc (keep_alloc (Below.refl _ _) _) _
  have x0 : ((w.alloc (.cells #[.int .i64 cells, .slice (some ⟨b, off, none⟩) n c] 24)).alloc (.cells #[.slice a1 n1 c1] 25)).cell? ⟨w.heap.size, 0, none⟩ = some (.int .i64 cells) := by
    rw [((bcell (W := w.alloc (.cells #[.int .i64 cells, .slice (some ⟨b, off, none⟩) n c] 24)) (keep_alloc (Below.refl _ _) _)).1 _ _ (by simp)), box_cells]; rfl
  have x1 : ((w.alloc (.cells #[.int .i64 cells, .slice (some ⟨b, off, none⟩) n c] 24)).alloc (.cells #[.slice a1 n1 c1] 25)).cell? ⟨w.heap.size, 1, none⟩ = some (.slice (some ⟨b, off, none⟩) n c) := by
    rw [((bcell (W := w.alloc (.cells #[.int .i64 cells, .slice (some ⟨b, off, none⟩) n c] 24)) (keep_alloc (Below.refl _ _) _)).1 _ _ (by simp)), box_cells]; rfl
  have x2 : ((w.alloc (.cells #[.int .i64 cells, .slice (some ⟨b, off, none⟩) n c] 24)).alloc (.cells #[.slice a1 n1 c1] 25)).cell? ⟨w.heap.size + 1, 0, none⟩ = some (.slice a1 n1 c1) := by
    have := box_cells (w.alloc (.cells #[.int .i64 cells, .slice (some ⟨b, off, none⟩) n c] 24)) #[.slice a1 n1 c1] 25 0
    rw [World.size_alloc] at this
    exact this.trans rfl
  have hs : w.heap.size + 2 ≤ ((w.alloc (.cells #[.int .i64 cells, .slice (some ⟨b, off, none⟩) n c] 24)).alloc (.cells #[.slice a1 n1 c1] 25)).heap.size := by simp
  have hI2 := hI.mono (keep_alloc (Below.refl _ _) (.cells #[.slice a1 n1 c1] 25))
  have hR2 := h.mono hB2
  generalize ((w.alloc (.cells #[.int .i64 cells, .slice (some ⟨b, off, none⟩) n c] 24)).alloc (.cells #[.slice a1 n1 c1] 25)) = W0 at hB2 x0 x1 x2 hs hI2 hR2 ⊢
  have X0 := Go.Lib.hid x0
  have X1 := Go.Lib.hid x1
  have X2 := Go.Lib.hid x2
  have hv : Hid (errs (lineBad cells (ls[i]?.getD [])) n1 ≠ 0 → lineErr cells ls i = errs (lineBad cells (ls[i]?.getD [])) n1) := by
    intro he
    unfold lineErr; rw [if_neg (by rw [hI.len]; exact hz), hI.len, if_pos he]
  clear x0 x1 x2 h hc hb hI
  go_loopw [6, 7, 8, 19] (fun _ _ _ i2 wr => ∃ k2 : Nat, k2 ≤ n1 ∧ i2 = .int .i64 k2 ∧ Hid (∀ j, j < k2 → lineBad cells (ls[i]?.getD []) j = 0) ∧ Below W0.heap.size W0 wr) (fun _ _ _ i2 _ => n1 - (intOf i2).toNat)
  case atStart => exact ⟨0, by omega, rfl, fun j hj => absurd hj (by omega), Below.refl _ _⟩
  case round =>
    obtain ⟨k, hk, rfl, hn, hbr⟩ := hrel
    have hsr : w.heap.size + 2 ≤ wr.heap.size := by have := hbr.size; omega
    have hsr0 : w.heap.size < wr.heap.size := by omega
    have hsr1 : w.heap.size + 1 < wr.heap.size := by omega
    have y0 := ((bcell hbr).1 _ _ (show w.heap.size < W0.heap.size by omega)).trans X0.out
    have y1 := ((bcell hbr).1 _ _ (show w.heap.size < W0.heap.size by omega)).trans X1.out
    have y2 := ((bcell hbr).1 _ _ (show w.heap.size + 1 < W0.heap.size by omega)).trans X2.out
    by_cases hlt : k < n1
    · obtain ⟨b2, off2, rfl, hb2, hc2⟩ := (hI2.mono hbr).2 k hlt
      have hli : (k : Int) < (n1 : Int) := by omega
      have hl0 : (0 : Int) ≤ (k : Int) := by omega
      have hF := Go.Lib.hid (lineBad_first cells (ls[i]?.getD []) k)
      by_cases g3 : k = 0
      · have e3 : decide (0 < (k : Int)) = false := by simp; omega
        have e3' : decide (0 < k) = false := by simp; omega
        clear g3
        by_cases g1 : (ls[i]?.getD [])[k]?.getD 0 < 0
        · have e1 : decide ((ls[i]?.getD [])[k]?.getD 0 < 0) = true := by simpa using g1
          have hG : Hid (lineBad cells (ls[i]?.getD []) k = firstL [whenV true 10, whenV false 11]) := by
            have := hF.out; rw [e3', e1] at this; exact this
          clear hF
          go_wp2_with (first | (go_at_call 45; refine (lwhen_c _ _ _).mono ?_; rintro e w2 ⟨rfl, rfl⟩) | (go_at_call 43; refine (lfirst_c _ _ _ _ _ (IC.new2 _ _ _ _)).mono ?_; rintro e w2 ⟨rfl, rfl⟩))
          · have he : (firstL [whenV true 10, whenV false 11] != 0) = true := by assumption
            go_ret
            have h1 := errs_found hn.out hlt (by rw [hG.out]; simpa using he)
            rw [hG.out] at h1
            exact ⟨ret_int (by rw [hv.out (by rw [h1]; simpa using he), h1]), keep_alloc (hB2.trans (hbr.mono (by omega))) _⟩
        · have e1 : decide ((ls[i]?.getD [])[k]?.getD 0 < 0) = false := by simpa using g1
          have hG : Hid (lineBad cells (ls[i]?.getD []) k = firstL [whenV (decide (cells ≤ (ls[i]?.getD [])[k]?.getD 0)) 10, whenV false 11]) := by
            have := hF.out; rw [e3', e1] at this; exact this
          clear hF
          go_wp2_with (first | (go_at_call 45; refine (lwhen_c _ _ _).mono ?_; rintro e w2 ⟨rfl, rfl⟩) | (go_at_call 43; refine (lfirst_c _ _ _ _ _ (IC.new2 _ _ _ _)).mono ?_; rintro e w2 ⟨rfl, rfl⟩))
          · have he : (firstL [whenV (decide (cells ≤ (ls[i]?.getD [])[k]?.getD 0)) 10, whenV false 11] != 0) = true := by assumption
            go_ret
            have h1 := errs_found hn.out hlt (by rw [hG.out]; simpa using he)
            rw [hG.out] at h1
            exact ⟨ret_int (by rw [hv.out (by rw [h1]; simpa using he), h1]), keep_alloc (hB2.trans (hbr.mono (by omega))) _⟩
          · have he : (firstL [whenV (decide (cells ≤ (ls[i]?.getD [])[k]?.getD 0)) 10, whenV false 11] != 0) = false := by assumption
            go_roundw
            case rel => exact ⟨k + 1, by omega, by go_num, upto_snoc hn.out (by rw [hG.out]; simpa using he), keep_alloc hbr _⟩
            case measure => simp [intOf]; omega
      · have e3 : decide (0 < (k : Int)) = true := by simp; omega
        have e3' : decide (0 < k) = true := by simp; omega
        have gn : (0 : Int) ≤ (k : Int) - 1 := by omega
        have gl : (k : Int) - 1 < (n1 : Int) := by omega
        have hcp' : wr.cell? ⟨b2, off2 + (k - 1), none⟩ = some (.int .i64 ((ls[i]?.getD [])[k - 1]?.getD 0)) := by
          obtain ⟨b3, off3, e, _, hc3⟩ := (hI2.mono hbr).2 (k - 1) (by omega)
          simp only [Option.some.injEq, Addr.mk.injEq, and_true] at e
          obtain ⟨rfl, rfl⟩ := e
          exact hc3
        clear g3
        by_cases g1 : (ls[i]?.getD [])[k]?.getD 0 < 0
        · have e1 : decide ((ls[i]?.getD [])[k]?.getD 0 < 0) = true := by simpa using g1
          have hG : Hid (lineBad cells (ls[i]?.getD []) k = firstL [whenV true 10, whenV (decide ((ls[i]?.getD [])[k]?.getD 0 ≤ (ls[i]?.getD [])[k - 1]?.getD 0)) 11]) := by
            have := hF.out; rw [e3', e1] at this; exact this
          clear hF
          go_wp2_with (first | (go_at_call 45; refine (lwhen_c _ _ _).mono ?_; rintro e w2 ⟨rfl, rfl⟩) | (go_at_call 43; refine (lfirst_c _ _ _ _ _ (IC.new2 _ _ _ _)).mono ?_; rintro e w2 ⟨rfl, rfl⟩))
          · have he : (firstL [whenV true 10, whenV (decide ((ls[i]?.getD [])[k]?.getD 0 ≤ (ls[i]?.getD [])[k - 1]?.getD 0)) 11] != 0) = true := by assumption
            go_ret
            have h1 := errs_found hn.out hlt (by rw [hG.out]; simpa using he)
            rw [hG.out] at h1
            exact ⟨ret_int (by rw [hv.out (by rw [h1]; simpa using he), h1]), keep_alloc (hB2.trans (hbr.mono (by omega))) _⟩
        · have e1 : decide ((ls[i]?.getD [])[k]?.getD 0 < 0) = false := by simpa using g1
          have hG : Hid (lineBad cells (ls[i]?.getD []) k = firstL [whenV (decide (cells ≤ (ls[i]?.getD [])[k]?.getD 0)) 10, whenV (decide ((ls[i]?.getD [])[k]?.getD 0 ≤ (ls[i]?.getD [])[k - 1]?.getD 0)) 11]) := by
            have := hF.out; rw [e3', e1] at this; exact this
          clear hF
          go_wp2_with (first | (go_at_call 45; refine (lwhen_c _ _ _).mono ?_; rintro e w2 ⟨rfl, rfl⟩) | (go_at_call 43; refine (lfirst_c _ _ _ _ _ (IC.new2 _ _ _ _)).mono ?_; rintro e w2 ⟨rfl, rfl⟩))
          · have he : (firstL [whenV (decide (cells ≤ (ls[i]?.getD [])[k]?.getD 0)) 10, whenV (decide ((ls[i]?.getD [])[k]?.getD 0 ≤ (ls[i]?.getD [])[k - 1]?.getD 0)) 11] != 0) = true := by assumption
            go_ret
            have h1 := errs_found hn.out hlt (by rw [hG.out]; simpa using he)
            rw [hG.out] at h1
            exact ⟨ret_int (by rw [hv.out (by rw [h1]; simpa using he), h1]), keep_alloc (hB2.trans (hbr.mono (by omega))) _⟩
          · have he : (firstL [whenV (decide (cells ≤ (ls[i]?.getD [])[k]?.getD 0)) 10, whenV (decide ((ls[i]?.getD [])[k]?.getD 0 ≤ (ls[i]?.getD [])[k - 1]?.getD 0)) 11] != 0) = false := by assumption
            go_roundw
            case rel => exact ⟨k + 1, by omega, by go_num, upto_snoc hn.out (by rw [hG.out]; simpa using he), keep_alloc hbr _⟩
            case measure => simp [intOf]; omega
    · have e : k = n1 := by omega
      subst e
      have he := Go.Lib.hid (errs_none hn.out)
      have hw : Hid (lineErr cells ls i = whenV (hasLineB (ls.take i) (ls[i]?.getD [])) 9) := by
        unfold Hid lineErr whenV; rw [if_neg (by rw [hI2.len]; exact hz), hI2.len, if_neg (by rw [he.out]; omega)]
      have hR3 := (hR2.mono hbr).take i (by omega)
      have hE : Hid (anyP (fun j => sameB ((ls.take i)[j]?.getD []) (ls[i]?.getD [])) i = hasLineB (ls.take i) (ls[i]?.getD [])) := by
        have := anyP_line (ls.take i) (ls[i]?.getD [])
        rw [hR3.len] at this
        exact this
      have HI := Go.Lib.hid (containsFuncR_c _ i c _ 57 #[.pointer (some ⟨w.heap.size + 1, 0, none⟩)] (fun j => sameB ((ls.take i)[j]?.getD []) (ls[i]?.getD [])) wr hR3 checkLine1_fn
        (fun j _ w' a3 n3 c3 hb3 hi3 _ => checkLine1_c a3 a1 n3 k c3 c1 _ _ _ w' hi3 ((hI2.mono hbr).mono hb3) (((bcell hb3).1 _ _ hsr1).trans y2)))
      rw [hE.out] at HI
      clear hE he hR3
      generalize hasLineB (ls.take i) (ls[i]?.getD []) = r at hw HI
      go_wp2_with (first | (go_at_call 49; refine HI.out.mono ?_; rintro e w1 ⟨rfl, hb1⟩) | (go_at_call 45; refine (lwhen_c _ _ _).mono ?_; rintro e w2 ⟨rfl, rfl⟩))
      go_ret
      exact ⟨ret_int hw.out.symm, (hB2.trans (hbr.mono (by omega))).trans (hb1.mono (by omega))⟩

end Go.Proofs.Ytcblpobiefmjmaa
