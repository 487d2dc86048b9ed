/- Contracts: solutions and all: the iterators as values. -/
import Derived.Test.YtcblpobiefmjmaaC22
namespace Go.Proofs.Ytcblpobiefmjmaa
open Go Go.RowKit
attribute [local go_sem] over_cell

/-- The iterator over the solutions of the search whose pointer lies in block bx. -/
def solV (bx : Nat) : Value := .func (.func 39) #[] #[.pointer (some ⟨bx, 0, none⟩)]

set_option maxRecDepth 100000 in
theorem solutions_c (b : Nat) (w : World) :
    Calls Try.prog 28 #[.pointer (some ⟨b, 0, none⟩)] w fun e w' => e = .returned (solV w.heap.size) ∧ w' = w.alloc (.cells #[.pointer (some ⟨b, 0, none⟩)] 56) := by
  go_enter Try.func28, Try.ntmps28
  go_wp2
  go_ret
  exact ⟨rfl, rfl⟩

set_option maxRecDepth 100000 in
set_option maxHeartbeats 1000000 in
theorem all_c (a : Option Addr) (n c : Nat) (ls : List (List Int)) (cells sum : Int) (a' : Option Addr) (n' c' : Nat) (g : List Int) (w : World) (h : RC w a n ls) (hcap : n ≤ c) (hnl : n ≤ 1000000) (h' : IC w a' n' g) (hm : n' ≤ 256) (hg : ∀ k : Nat, k < n' → 0 ≤ g[k]?.getD 0 ∧ g[k]?.getD 0 ≤ 256)
    (hline : ∀ l, l ∈ ls → l.length ≤ 1000 ∧ ∀ x, x ∈ l → 0 ≤ x ∧ x < (n' : Int)) (Old : Nat → Prop) (hOl : ∀ k, Old k → k < w.heap.size)
    (hOld : Sure Old w (fun w' => ∀ i, i < n → ∃ a9 n9 c9, lineV w a i = .slice a9 n9 c9 ∧ IC w' a9 n9 (ls[i]?.getD []) ∧ n9 ≤ c9)) :
    Calls Try.prog 15 #[.agg #[.int .i64 cells, .slice a n c, .int .i64 sum, .slice a' n' c']] w fun e w' => ∃ bx b Im ao co al cl vf, e = .returned (solV bx) ∧ w.heap.size ≤ bx ∧ bx < w'.heap.size ∧ bx ≠ b ∧ vf.ownBlock ≠ some bx ∧ ¬ Im bx ∧ w'.cell? ⟨bx, 0, none⟩ = some (.pointer (some ⟨b, 0, none⟩)) ∧ SR w' b Im ⟨cells, a, n, c, ls, sum, a', n', c', g, ao, co, al, cl⟩ vf (.slice none 0 0) [] ∧ Below w.heap.size w w' ∧ w.heap.size ≤ b ∧ (∀ k, vf.ownBlock = some k → w.heap.size ≤ k) ∧ (∀ k, Im k → Old k ∨ w.heap.size ≤ k) := by
  have hB : Below w.heap.size w (w.alloc (.cells #[.int .i64 cells, .slice a n c, .int .i64 sum, .slice a' n' c'] 27)) := (Below.refl _ _).alloc (Nat.le_refl _) _
  have HS := Go.Lib.hid (searchOf_c a n c ls cells sum a' n' c' g _ (h.mono hB) hcap hnl (h'.mono hB) hm hg hline Old (fun k e => by have := hOl k e; simp; omega) (fun w' hs hb i hi => by
    rw [lineV_keep h hB i hi]
    exact hOld w' (Nat.le_trans hB.size hs) (fun k e => (hb k e).trans (hB.block k (hOl k e))) i hi))
  clear hOld hline hOl h h' hg
  go_enter Try.func15, Try.ntmps15
  go_wp2_with (first | (go_at_call 27; refine HS.out.mono ?_; rintro _ w1 ⟨b, Im, ao, co, al, cl, vf, rfl, hsr, hb1, hb2, hb3, hb4⟩) | (go_at_call 28; refine (solutions_c b w1).mono ?_; rintro _ w2 ⟨rfl, rfl⟩))
  go_ret
  have hb5 : Below w1.heap.size w1 (w1.alloc (.cells #[.pointer (some ⟨b, 0, none⟩)] 56)) := (Below.refl _ _).alloc (Nat.le_refl _) _
  have hlt := hsr.lt
  have hsz : w.heap.size < w1.heap.size := by have := hb1.size; simp at this; omega
  refine ⟨w1.heap.size, b, Im, ao, co, al, cl, vf, rfl, by omega, by simp, by omega, ?_, fun e => by have := hsr.imLt _ e; omega, (box_cells w1 #[.pointer (some ⟨b, 0, none⟩)] _ 0).trans rfl, hsr.below hb5, (hB.trans (hb1.mono (by simp))).trans (hb5.mono (by omega)), by simp at hb2; omega, fun k e => by have := hb3 k e; simp at this; omega, fun k e => (hb4 k e).imp id (fun h => by simp at h; omega)⟩
  intro e
  have := (hsr.f.lt _ e).2
  omega

end Go.Proofs.Ytcblpobiefmjmaa
