/- What a task without an error is. -/
import Derived.Test.YtcblpobiefmjmaaC29
namespace Go.Proofs.Ytcblpobiefmjmaa
open Go Go.RowKit

structure GoodTask (cells : Int) (ls : List (List Int)) (sum : Int) (g : List Int) : Prop where
  cells1 : 1 ≤ cells
  cells2 : cells ≤ 256
  lines : ls.length ≤ 128
  sum1 : 1 ≤ sum
  sum2 : sum ≤ 999999999
  len : (g.length : Int) = cells
  some : ∀ l, l ∈ ls → 0 < l.length
  mem : ∀ l, l ∈ ls → ∀ k : Nat, k < l.length → 0 ≤ l[k]?.getD 0 ∧ l[k]?.getD 0 < cells
  asc : ∀ l, l ∈ ls → ∀ k : Nat, 0 < k → k < l.length → l[k - 1]?.getD 0 < l[k]?.getD 0
  num : ∀ i : Nat, i < g.length → 0 ≤ g[i]?.getD 0 ∧ g[i]?.getD 0 ≤ cells
  apart : ∀ i j : Nat, i < j → j < g.length → 0 < g[j]?.getD 0 → g[i]?.getD 0 ≠ g[j]?.getD 0

theorem goodTask {cells : Int} {ls : List (List Int)} {sum : Int} {g : List Int} (h : taskErr cells ls sum g = 0) : GoodTask cells ls sum g := by
  unfold taskErr at h
  by_cases h1 : sysErr cells ls ≠ 0
  · rw [if_pos h1] at h; exact absurd h h1
  rw [if_neg h1] at h
  by_cases h2 : sum < 1 ∨ sum > 999999999
  · rw [if_pos h2] at h; exact absurd h (by decide)
  rw [if_neg h2] at h
  by_cases h3 : (g.length : Int) ≠ cells
  · rw [if_pos h3] at h; exact absurd h (by decide)
  rw [if_neg h3] at h
  have hs : sysErr cells ls = 0 := by omega
  unfold sysErr at hs
  by_cases h4 : cells < 1 ∨ cells > 256
  · rw [if_pos h4] at hs; exact absurd hs (by decide)
  rw [if_neg h4] at hs
  by_cases h5 : ls.length > 128
  · rw [if_pos h5] at hs; exact absurd hs (by decide)
  rw [if_neg h5] at hs
  have hg := errs_zero h
  have hL := errs_zero hs
  have hline : ∀ l, l ∈ ls → 0 < l.length ∧ ∀ k, k < l.length → lineBad cells l k = 0 := by
    intro l hl
    obtain ⟨i, hi, rfl⟩ := List.getElem_of_mem hl
    have h6 := hL i hi
    unfold lineErr at h6
    rw [List.getElem?_eq_getElem hi, Option.getD_some] at h6
    by_cases h7 : ls[i].length = 0
    · rw [if_pos h7] at h6; exact absurd h6 (by decide)
    rw [if_neg h7] at h6
    by_cases h8 : errs (lineBad cells ls[i]) ls[i].length ≠ 0
    · rw [if_pos h8] at h6; exact absurd h6 h8
    exact ⟨by omega, errs_zero (by omega)⟩
  have hgiven : ∀ i : Nat, i < g.length → (0 ≤ g[i]?.getD 0 ∧ g[i]?.getD 0 ≤ cells) ∧ (0 < g[i]?.getD 0 → hasB (g.take i) (g[i]?.getD 0) = false) := by
    intro i hi
    have h6 := hg i hi
    unfold givenBad at h6
    by_cases h7 : g[i]?.getD 0 < 0 ∨ g[i]?.getD 0 > cells
    · rw [if_pos h7] at h6; exact absurd h6 (by decide)
    rw [if_neg h7] at h6
    refine ⟨by omega, fun h9 => ?_⟩
    by_cases h8 : 0 < g[i]?.getD 0 ∧ hasB (g.take i) (g[i]?.getD 0) = true
    · rw [if_pos h8] at h6; exact absurd h6 (by decide)
    · rw [Bool.eq_false_iff]; exact fun e => h8 ⟨h9, e⟩
  have hbad : ∀ l, l ∈ ls → ∀ k, k < l.length → (0 ≤ l[k]?.getD 0 ∧ l[k]?.getD 0 < cells) ∧ (0 < k → l[k - 1]?.getD 0 < l[k]?.getD 0) := by
    intro l hl k hk
    have h6 := (hline l hl).2 k hk
    unfold lineBad at h6
    by_cases h7 : l[k]?.getD 0 < 0 ∨ l[k]?.getD 0 ≥ cells
    · rw [if_pos h7] at h6; exact absurd h6 (by decide)
    rw [if_neg h7] at h6
    by_cases h8 : 0 < k ∧ l[k]?.getD 0 ≤ l[k - 1]?.getD 0
    · rw [if_pos h8] at h6; exact absurd h6 (by decide)
    exact ⟨by omega, fun h9 => by omega⟩
  exact { cells1 := by omega, cells2 := by omega, lines := by omega, sum1 := by omega, sum2 := by omega, len := by omega, some := fun l hl => (hline l hl).1,
          mem := fun l hl k hk => (hbad l hl k hk).1, asc := fun l hl k h0 hk => (hbad l hl k hk).2 h0, num := fun i hi => (hgiven i hi).1,
          apart := fun i j hij hj h0 e => by
            have h6 := (hgiven j hj).2 h0
            rw [Bool.eq_false_iff] at h6
            apply h6
            rw [hasB_iff, ← e, List.getElem?_eq_getElem (by omega), Option.getD_some]
            rw [List.mem_take_iff_getElem]
            exact ⟨i, by omega, rfl⟩ }

theorem GoodTask.lineLen {cells : Int} {ls : List (List Int)} {sum : Int} {g : List Int} (h : GoodTask cells ls sum g) {l : List Int} (hl : l ∈ ls) : l.length ≤ 1000 ∧ ∀ x, x ∈ l → 0 ≤ x ∧ x < cells := by
  have key : ∀ k : Nat, k < l.length → (k : Int) ≤ l[k]?.getD 0 := by
    intro k
    induction k with
    | zero => intro hk; exact (h.mem l hl 0 hk).1
    | succ k ih =>
      intro hk
      have h1 := ih (by omega)
      have h2 := h.asc l hl (k + 1) (by omega) hk
      simp only [Nat.add_sub_cancel] at h2
      omega
  have h0 := h.some l hl
  have h1 := key (l.length - 1) (by omega)
  have h2 := (h.mem l hl (l.length - 1) (by omega)).2
  have h3 := h.cells2
  refine ⟨by omega, fun x hx => ?_⟩
  obtain ⟨k, hk, rfl⟩ := List.getElem_of_mem hx
  have := h.mem l hl k hk
  rwa [List.getElem?_eq_getElem hk] at this

theorem GoodTask.even {cells : Int} {ls : List (List Int)} {sum : Int} {g : List Int} (h : GoodTask cells ls sum g) : (unusedL g).length = (openL g).length :=
  even_of (fun k hk => by have := h.num k hk; have := h.len; omega) h.apart

theorem GoodTask.fine {C : Cst} (h : GoodTask C.cells C.ls C.sum C.g) (hl : C.g.length = C.n') : Fine C where
  len := hl
  most := by have := h.len; have := h.cells2; omega
  num := fun k => by
    by_cases hk : k < C.g.length
    · have := h.num k hk
      have := h.cells2
      omega
    · rw [List.getElem?_eq_none (by omega)]; decide
  line := fun l hl2 => by
    have h1 := h.lineLen hl2
    have h2 := h.len
    exact ⟨h1.1, fun x hx => by have := h1.2 x hx; omega⟩

end Go.Proofs.Ytcblpobiefmjmaa
