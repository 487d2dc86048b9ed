/- Contracts: lists of integers are compared and searched. -/
import Derived.Test.YtcblpobiefmjmaaVoc
import Derived.Test.YtcblpobiefmjmaaSpec
import Derived.Lib.Hide
namespace Go.Proofs.Ytcblpobiefmjmaa
open Go Go.RowKit
attribute [local go_sem] over_cell


theorem hasB_of_mem {xs : List Int} {k : Nat} {x : Int} (hk : k < xs.length) (h : xs[k]?.getD 0 = x) : hasB xs x = true := by
  rw [List.getElem?_eq_getElem hk] at h
  simp at h
  simp [hasB, ← h]

set_option maxHeartbeats 400000 in
theorem has_c (a : Option Addr) (n c : Nat) (xs : List Int) (x : Int) (w : World) (h : IC w a n xs) :
    Calls Try.prog 25 #[.slice a n c, .int .i64 x] w fun e w' => e = .returned (.bool (hasB xs x)) ∧ w = w' := by
  have hm := h.small
  go_enter Try.func25, Try.ntmps25
  go_wp2
  go_loop [5] (fun i => ∃ k : Nat, k ≤ n ∧ i = .int .i64 k ∧ Hid (¬ x ∈ xs.take k)) (fun i => n - (intOf i).toNat)
  case atStart => exact ⟨0, by omega, rfl, by simp [Hid]⟩
  case round =>
    obtain ⟨k, hk, rfl, hn⟩ := hrel
    by_cases hlt : k < n
    · obtain ⟨b, off, rfl, hb, hc⟩ := h.2 k hlt
      go_wp2
      · have he : (xs[k]?.getD 0 == x) = true := by assumption
        go_ret
        exact ⟨ret_bool (hasB_of_mem (by rw [h.len]; exact hlt) (by simpa using he)).symm, rfl⟩
      · have he : (xs[k]?.getD 0 == x) = false := by assumption
        go_round
        case rel =>
          refine ⟨k + 1, by omega, by go_num, ?_⟩
          unfold Hid
          rw [take_snoc xs 0 k (by rw [h.len]; exact hlt)]
          simp only [List.mem_append, List.mem_singleton, not_or]
          exact ⟨hn, fun e => by rw [← e] at he; simp at he⟩
        case measure => simp [intOf]; omega
    · go_wp2
      go_ret
      refine ⟨ret_bool ?_, rfl⟩
      have : xs.take k = xs := List.take_of_length_le (by rw [h.len]; omega)
      have hn' : ¬ x ∈ xs := by have := hn.out; simp_all
      simp [hasB, hn']

theorem sameB_ne {xs ys : List Int} {k : Nat} (h : xs[k]?.getD 0 ≠ ys[k]?.getD 0) : sameB xs ys = false := by
  simp only [sameB, decide_eq_false_iff_not]
  rintro rfl
  exact h rfl

set_option maxHeartbeats 400000 in
theorem same_c (a a' : Option Addr) (n n' c c' : Nat) (xs ys : List Int) (w : World) (h : IC w a n xs) (h' : IC w a' n' ys) :
    Calls Try.prog 10 #[.slice a n c, .slice a' n' c'] w fun e w' => e = .returned (.bool (sameB xs ys)) ∧ Below w.heap.size w w' := by
  have hm := h.small
  by_cases hl : n = n'
  · subst hl
    go_enter Try.func10, Try.ntmps10
    go_wp2
    go_loopw [5] (fun i wr => ∃ k : Nat, k ≤ n ∧ i = .int .i64 k ∧ Hid (xs.take k = ys.take k) ∧ Below w.heap.size w wr) (fun i _ => n - (intOf i).toNat)
    case atStart => exact ⟨0, by omega, rfl, by simp [Hid], Below.refl _ _⟩
    case round =>
      obtain ⟨k, hk, rfl, hn, hbr⟩ := hrel
      by_cases hlt : k < n
      · obtain ⟨b, off, rfl, hb, hc⟩ := (h.mono hbr).2 k hlt
        obtain ⟨b', off', rfl, hb', hc'⟩ := (h'.mono hbr).2 k hlt
        have hli : (k : Int) < (n : Int) := by omega
        have hl0 : (0 : Int) ≤ (k : Int) := by omega
        go_wp2
        refine wp_region_S (fun w' => ∃ u, w' = over (wr) u) [] [(0, 0), (0, 1), (0, 2), (0, 3), (0, 4), (0, 5), (0, 6), (0, 7), (0, 8)] (by kernel_rfl) (by kernel_rfl) (by exact ⟨_, below_over (by repeat (first | assumption | exact Below.refl _ _ | refine keep_drew ?_ | refine keep_alloc ?_ _ | refine keep_trans ?_ (by assumption)))⟩) ?_
        dsimp only [pickOps, nthOp]
        repeat (first | (refine wpS_skip rfl (fun K hK => ?_); go_big_quiet_op; refine hK _ ?_; clear hK K) | (refine wpS_quiet rfl rfl (fun K hK => ?_); go_big_quiet_op; refine hK _ ?_; clear hK K))
        refine wpS_end ?_
        by_cases he : xs[k]?.getD 0 = ys[k]?.getD 0
        · have he' : (xs[k]?.getD 0 != ys[k]?.getD 0) = false := by simpa using he
          have he2 := Go.Lib.hid he; clear he
          go_wp2
          go_roundw
          case rel =>
            refine ⟨k + 1, by omega, by go_num, ?_, hbr.drew⟩
            unfold Hid
            rw [take_snoc xs 0 k (by rw [h.len]; exact hlt), take_snoc ys 0 k (by rw [h'.len]; exact hlt), hn.out, he2.out]
          case measure => simp [intOf]; omega
        · have he' : (xs[k]?.getD 0 != ys[k]?.getD 0) = true := by simpa using he
          go_wp2
          go_ret
          exact ⟨ret_bool (sameB_ne he).symm, hbr.drew⟩
      · go_wp2
        go_ret
        refine ⟨ret_bool ?_, hbr⟩
        have e1 : xs.take k = xs := List.take_of_length_le (by rw [h.len]; omega)
        have e2 : ys.take k = ys := List.take_of_length_le (by rw [h'.len]; omega)
        have := hn.out
        rw [e1, e2] at this
        simp [sameB, this]
  · have hl' : ((n : Int) != (n' : Int)) = true := by simp; omega
    go_enter Try.func10, Try.ntmps10
    go_wp2
    go_ret
    refine ⟨ret_bool ?_, Below.refl _ _⟩
    symm
    simp only [sameB, decide_eq_false_iff_not]
    rintro rfl
    exact hl (h.len.symm.trans h'.len)

theorem hasLine_hit {ls : List (List Int)} {l : List Int} {k : Nat} (hk : k < ls.length) (h : sameB (ls[k]?.getD []) l = true) : hasLineB ls l = true := by
  rw [List.getElem?_eq_getElem hk] at h
  simp [sameB] at h
  simp [hasLineB, ← h]

set_option maxHeartbeats 400000 in
theorem hasLine_c (a a' : Option Addr) (n n' c c' : Nat) (ls : List (List Int)) (l : List Int) (w : World) (h : RC w a n ls) (h' : IC w a' n' l) :
    Calls Try.prog 36 #[.slice a n c, .slice a' n' c'] w fun e w' => e = .returned (.bool (hasLineB ls l)) ∧ Below w.heap.size w w' := by
  have hm := h.small
  go_enter Try.func36, Try.ntmps36
  go_wp2
  go_loopw [5] (fun i wr => ∃ k : Nat, k ≤ n ∧ i = .int .i64 k ∧ Hid (¬ l ∈ ls.take k) ∧ Below w.heap.size w wr) (fun i _ => n - (intOf i).toNat)
  case atStart => exact ⟨0, by omega, rfl, by simp [Hid], Below.refl _ _⟩
  case round =>
    obtain ⟨k, hk, rfl, hn, hbr⟩ := hrel
    by_cases hlt : k < n
    · obtain ⟨b, off, a1, n1, c1, rfl, hb, hc, hi, hic1⟩ := (h.mono hbr).2 k hlt
      go_wp2_with (go_at_call 10; refine (same_c _ _ _ _ _ _ _ _ _ hi (h'.mono hbr)).mono ?_; rintro e w1 ⟨rfl, hb1⟩)
      · have he : sameB (ls[k]?.getD []) l = true := by assumption
        go_ret
        exact ⟨ret_bool (hasLine_hit (by rw [h.len]; exact hlt) he).symm, hbr.trans (hb1.mono hbr.size)⟩
      · have he : sameB (ls[k]?.getD []) l = false := by assumption
        go_roundw
        case rel =>
          refine ⟨k + 1, by omega, by go_num, ?_, hbr.trans (hb1.mono hbr.size)⟩
          unfold Hid
          rw [take_snoc ls [] k (by rw [h.len]; exact hlt)]
          simp only [List.mem_append, List.mem_singleton, not_or]
          exact ⟨hn, fun e => by rw [← e] at he; simp [sameB] at he⟩
        case measure => simp [intOf]; omega
    · go_wp2
      go_ret
      refine ⟨ret_bool ?_, hbr⟩
      have : ls.take k = ls := List.take_of_length_le (by rw [h.len]; omega)
      have hn' : ¬ l ∈ ls := by have := hn.out; simp_all
      simp [hasLineB, hn']

/-- A new block's cells. -/
theorem box_cells (w : World) (cs : Array Value) (T : TypeId) (i : Nat) : (w.alloc (.cells cs T)).cell? ⟨w.heap.size, i, none⟩ = cs[i]? := by
  simp only [World.cell?]
  rw [heap_alloc_new]
  simp

set_option maxHeartbeats 400000 in
theorem short2_c (a : Option Addr) (n c : Nat) (ls : List (List Int)) (cells lines sc : Int) (w : World) (h : RC w a n ls) :
    Calls Try.prog 23 #[.agg #[.int .i64 sc, .slice a n c], .int .i64 cells, .int .i64 lines] w fun e w' => e = .returned (.bool (shortB cells lines ls)) ∧ Below w.heap.size w w' := by
  have hm := h.small
  by_cases hl : lines < (n : Int)
  · have hf : Hid (shortB cells lines ls = false) := by
      simp only [Hid, shortB, h.len, Bool.and_eq_false_iff, decide_eq_false_iff_not]
      left; omega
    go_enter Try.func23, Try.ntmps23
    go_wp2
    go_ret
    exact ⟨ret_bool hf.out.symm, (Below.refl _ _).alloc (Nat.le_refl _) _⟩
  · go_enter Try.func23, Try.ntmps23
    go_wp2
    have hsz : w.heap.size < (w.alloc (.cells #[.int .i64 sc, .slice a n c] 24)).heap.size := by simp
    have hx1 := box_cells w #[.int .i64 sc, .slice a n c] 24 1
    have hB : Below w.heap.size w (w.alloc (.cells #[.int .i64 sc, .slice a n c] 24)) := (Below.refl _ _).alloc (Nat.le_refl _) _
    generalize (w.alloc (.cells #[.int .i64 sc, .slice a n c] 24)) = W0 at hsz hx1 hB ⊢
    have h0 := h.mono hB
    go_loop [7] (fun i => ∃ k : Nat, k ≤ n ∧ i = .int .i64 k ∧ Hid (∀ l, l ∈ ls.take k → (l.length : Int) ≤ cells)) (fun i => n - (intOf i).toNat)
    case atStart => exact ⟨0, by omega, rfl, by simp [Hid]⟩
    case round =>
      obtain ⟨k, hk, rfl, hn⟩ := hrel
      have hx1' : W0.cell? ⟨w.heap.size, 1, none⟩ = some (.slice a n c) := by simpa using hx1
      clear hx1
      by_cases hlt : k < n
      · obtain ⟨b, off, a1, n1, c1, rfl, hb, hc, hi, hic1⟩ := h0.2 k hlt
        by_cases hle : cells < (n1 : Int)
        · go_wp2
          go_ret
          refine ⟨ret_bool ?_, hB⟩
          symm
          simp only [shortB, Bool.and_eq_false_iff, List.all_eq_false]
          right
          exact ⟨ls[k]?.getD [], by rw [List.getElem?_eq_getElem (by rw [h.len]; exact hlt)]; simp, by rw [hi.len]; simp; omega⟩
        · go_wp2
          go_round
          case rel =>
            refine ⟨k + 1, by omega, by go_num, ?_⟩
            unfold Hid
            rw [take_snoc ls [] k (by rw [h.len]; exact hlt)]
            intro l hl'
            rcases List.mem_append.1 hl' with hl' | hl'
            · exact hn.out l hl'
            · rw [List.mem_singleton.1 hl', hi.len]; omega
          case measure => simp [intOf]; omega
      · go_wp2
        go_ret
        refine ⟨ret_bool ?_, hB⟩
        have e1 : ls.take k = ls := List.take_of_length_le (by rw [h.len]; omega)
        have := hn.out
        rw [e1] at this
        symm
        simp only [shortB, Bool.and_eq_true, List.all_eq_true, decide_eq_true_eq]
        exact ⟨by rw [h.len]; omega, this⟩

end Go.Proofs.Ytcblpobiefmjmaa
