/- Contracts: the reference's Short and Few. -/
import Derived.Test.YtcblpobiefmjmaaC23
namespace Go.Proofs.Ytcblpobiefmjmaa
open Go Go.RowKit
attribute [local go_sem] over_cell

def short6B (cells : Int) (ls : List (List Int)) (g : List Int) : Bool := shortB cells 40 ls && decide ((g.length : Int) ≤ cells)

set_option maxRecDepth 100000 in
set_option maxHeartbeats 1000000 in
theorem short6_c (a : Option Addr) (n c : Nat) (ls : List (List Int)) (sc sum : Int) (a' : Option Addr) (n' c' : Nat) (g : List Int) (cells : Int) (w : World) (h : RC w a n ls) (h' : IC w a' n' g) :
    Calls Try.prog 11 #[.agg #[.int .i64 sc, .slice a n c, .int .i64 sum, .slice a' n' c'], .int .i64 cells] w fun e w' => e = .returned (.bool (short6B cells ls g)) ∧ Below w.heap.size w w' := by
  have hl := h'.len
  have hB : Below w.heap.size w (w.alloc (.cells #[.int .i64 sc, .slice a n c, .int .i64 sum, .slice a' n' c'] 28)) := (Below.refl _ _).alloc (Nat.le_refl _) _
  have HS := Go.Lib.hid (short2_c a n c ls cells 40 sc _ (h.mono hB))
  have hE : Hid (short6B cells ls g = (shortB cells 40 ls && decide ((n' : Int) ≤ cells))) := by
    unfold Hid
    rw [short6B, hl]
  clear h h'
  go_enter Try.func11, Try.ntmps11
  by_cases hs : shortB cells 40 ls = true
  · rw [hs] at HS hE
    go_wp2_with (go_at_call 23; refine HS.out.mono ?_; rintro _ w1 ⟨rfl, hb0⟩; obtain ⟨⟨x0, x1, x2, x3⟩, hb1, hs1⟩ := box4 hb0; clear hb0)
    go_ret
    exact ⟨ret_bool (by rw [hE.out]; simp), hb1⟩
  · have hs' : shortB cells 40 ls = false := by simpa using hs
    rw [hs'] at HS hE
    go_wp2_with (go_at_call 23; refine HS.out.mono ?_; rintro _ w1 ⟨rfl, hb0⟩; obtain ⟨⟨x0, x1, x2, x3⟩, hb1, hs1⟩ := box4 hb0; clear hb0)
    go_ret
    exact ⟨ret_bool (by rw [hE.out]; simp), hb1⟩

theorem box2 {w w1 : World} {x0 x1 : Value} {T : TypeId} (hb : Below (w.alloc (.cells #[x0, x1] T)).heap.size (w.alloc (.cells #[x0, x1] T)) w1) :
    (w1.cell? ⟨w.heap.size, 0, none⟩ = some x0 ∧ w1.cell? ⟨w.heap.size, 1, none⟩ = some x1) ∧ Below w.heap.size w w1 ∧ w.heap.size < w1.heap.size := by
  have hlt : w.heap.size < (w.alloc (.cells #[x0, x1] T)).heap.size := by simp
  have hc := fun i => ((bcell hb).1 w.heap.size i hlt).trans (box_cells w #[x0, x1] T i)
  exact ⟨⟨hc 0, hc 1⟩, ((Below.refl _ _).alloc (Nat.le_refl _) _).trans (hb.mono (by omega)), Nat.lt_of_lt_of_le hlt hb.size⟩

def few2B (cells lines sc : Int) (ls : List (List Int)) : Bool := shortB cells lines ls && (sysErr sc ls == 0) && decide (sc ≤ cells)

set_option maxRecDepth 100000 in
set_option maxHeartbeats 1000000 in
theorem few2_c (a : Option Addr) (n c : Nat) (ls : List (List Int)) (sc cells lines : Int) (w : World) (h : RC w a n ls) (hcap : n ≤ c) :
    Calls Try.prog 13 #[.agg #[.int .i64 sc, .slice a n c], .int .i64 cells, .int .i64 lines] w fun e w' => e = .returned (.bool (few2B cells lines sc ls)) ∧ Below w.heap.size w w' := by
  have hB : Below w.heap.size w (w.alloc (.cells #[.int .i64 sc, .slice a n c] 24)) := (Below.refl _ _).alloc (Nat.le_refl _) _
  have HS := Go.Lib.hid (short2_c a n c ls cells lines sc _ (h.mono hB))
  have HC := Go.Lib.hid (fun w1 (hb : Below w.heap.size w w1) => sys2_c a n c ls sc w1 (h.mono hb) hcap)
  have hE : Hid (few2B cells lines sc ls = (shortB cells lines ls && (sysErr sc ls == 0) && decide (sc ≤ cells))) := rfl
  clear h
  go_enter Try.func13, Try.ntmps13
  by_cases hs : shortB cells lines ls = true
  · rw [hs] at HS hE
    by_cases he : (sysErr sc ls == 0) = true
    · rw [he] at hE
      go_wp2_with (first | (go_at_call 23; refine HS.out.mono ?_; rintro _ w1 ⟨rfl, hb0⟩; obtain ⟨⟨x0, x1⟩, hb1, hs1⟩ := box2 hb0; clear hb0) | (go_at_call 24; refine (HC.out w1 hb1).mono ?_; rintro _ w2 ⟨rfl, hb2⟩; obtain ⟨y0, y1⟩ : w2.cell? ⟨w.heap.size, 0, none⟩ = some (.int .i64 sc) ∧ w2.cell? ⟨w.heap.size, 1, none⟩ = some (.slice a n c) := ⟨((bcell hb2).1 _ _ hs1).trans x0, ((bcell hb2).1 _ _ hs1).trans x1⟩))
      go_ret
      exact ⟨ret_bool (by rw [hE.out]; simp), hb1.trans (hb2.mono (by omega))⟩
    · have he' : (sysErr sc ls == 0) = false := by simpa using he
      rw [he'] at hE
      go_wp2_with (first | (go_at_call 23; refine HS.out.mono ?_; rintro _ w1 ⟨rfl, hb0⟩; obtain ⟨⟨x0, x1⟩, hb1, hs1⟩ := box2 hb0; clear hb0) | (go_at_call 24; refine (HC.out w1 hb1).mono ?_; rintro _ w2 ⟨rfl, hb2⟩; obtain ⟨y0, y1⟩ : w2.cell? ⟨w.heap.size, 0, none⟩ = some (.int .i64 sc) ∧ w2.cell? ⟨w.heap.size, 1, none⟩ = some (.slice a n c) := ⟨((bcell hb2).1 _ _ hs1).trans x0, ((bcell hb2).1 _ _ hs1).trans x1⟩))
      go_ret
      exact ⟨ret_bool (by rw [hE.out]; simp), hb1.trans (hb2.mono (by omega))⟩
  · have hs' : shortB cells lines ls = false := by simpa using hs
    rw [hs'] at HS hE
    go_wp2_with (first | (go_at_call 23; refine HS.out.mono ?_; rintro _ w1 ⟨rfl, hb0⟩; obtain ⟨⟨x0, x1⟩, hb1, hs1⟩ := box2 hb0; clear hb0) | (go_at_call 24; refine (HC.out w1 hb1).mono ?_; rintro _ w2 ⟨rfl, hb2⟩; obtain ⟨y0, y1⟩ : w2.cell? ⟨w.heap.size, 0, none⟩ = some (.int .i64 sc) ∧ w2.cell? ⟨w.heap.size, 1, none⟩ = some (.slice a n c) := ⟨((bcell hb2).1 _ _ hs1).trans x0, ((bcell hb2).1 _ _ hs1).trans x1⟩))
    go_ret
    exact ⟨ret_bool (by rw [hE.out]; simp), hb1⟩

end Go.Proofs.Ytcblpobiefmjmaa
