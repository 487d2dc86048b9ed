/- Contracts: the reference's Few. -/
import Derived.Test.YtcblpobiefmjmaaC25
namespace Go.Proofs.Ytcblpobiefmjmaa
open Go Go.RowKit
attribute [local go_sem] over_cell

def few6B (cells op sc sum : Int) (ls : List (List Int)) (g : List Int) : Bool := short6B cells ls g && (taskErr sc ls sum g == 0) && few2B cells 12 sc ls && decide (((openL g).length : Int) ≤ op)

set_option maxRecDepth 100000 in
set_option maxHeartbeats 1000000 in
theorem few6_c (a : Option Addr) (n c : Nat) (ls : List (List Int)) (sc sum : Int) (a' : Option Addr) (n' c' : Nat) (g : List Int) (cells op : Int) (w : World) (h : RC w a n ls) (hcap : n ≤ c) (h' : IC w a' n' g) (hcap' : n' ≤ c') :
    Calls Try.prog 4 #[.agg #[.int .i64 sc, .slice a n c, .int .i64 sum, .slice a' n' c'], .int .i64 cells, .int .i64 op] w fun e w' => e = .returned (.bool (few6B cells op sc sum ls g)) ∧ Below w.heap.size w w' := by
  have hB : Below w.heap.size w (w.alloc (.cells #[.int .i64 sc, .slice a n c, .int .i64 sum, .slice a' n' c'] 28)) := (Below.refl _ _).alloc (Nat.le_refl _) _
  have HS := Go.Lib.hid (short6_c a n c ls sc sum a' n' c' g cells _ (h.mono hB) (h'.mono hB))
  have HC := Go.Lib.hid (fun w1 (hb : Below w.heap.size w w1) => rtask_c a n c ls sc sum a' n' c' g w1 (h.mono hb) hcap (h'.mono hb) hcap')
  have HF := Go.Lib.hid (fun w1 (hb : Below w.heap.size w w1) => few2_c a n c ls sc cells 12 w1 (h.mono hb) hcap)
  have HO := Go.Lib.hid (fun w1 (hb : Below w.heap.size w w1) => ropen_c (.slice a n c) sc sum a' n' c' g w1 (h'.mono hb))
  have hE : Hid (few6B cells op sc sum ls g = (short6B cells ls g && (taskErr sc ls sum g == 0) && few2B cells 12 sc ls && decide (((openL g).length : Int) ≤ op))) := rfl
  clear h h'
  go_enter Try.func4, Try.ntmps4
  by_cases hs : short6B cells ls g = true
  · rw [hs] at HS hE
    by_cases he : (taskErr sc ls sum g == 0) = true
    · rw [he] at hE
      by_cases hf : few2B cells 12 sc ls = true
      · rw [hf] at HF hE
        go_wp2_with (first | (go_at_call 11; refine HS.out.mono ?_; rintro _ w1 ⟨rfl, hb0⟩; obtain ⟨⟨x0, x1, x2, x3⟩, hb1, hs1⟩ := box4 hb0; clear hb0) | (go_at_call 12; refine (HC.out w1 hb1).mono ?_; rintro _ w2 ⟨rfl, hb2⟩; obtain ⟨y0, y1, y2, y3⟩ : w2.cell? ⟨w.heap.size, 0, none⟩ = some (.int .i64 sc) ∧ w2.cell? ⟨w.heap.size, 1, none⟩ = some (.slice a n c) ∧ w2.cell? ⟨w.heap.size, 2, none⟩ = some (.int .i64 sum) ∧ w2.cell? ⟨w.heap.size, 3, none⟩ = some (.slice a' n' c') := ⟨((bcell hb2).1 _ _ hs1).trans x0, ((bcell hb2).1 _ _ hs1).trans x1, ((bcell hb2).1 _ _ hs1).trans x2, ((bcell hb2).1 _ _ hs1).trans x3⟩; have hs2 := Nat.lt_of_lt_of_le hs1 hb2.size; have hb12 := hb1.trans (hb2.mono (Nat.le_of_lt hs1))) | (go_at_call 13; refine (HF.out w2 hb12).mono ?_; rintro _ w3 ⟨rfl, hb3⟩; obtain ⟨z0, z1, z2, z3⟩ : w3.cell? ⟨w.heap.size, 0, none⟩ = some (.int .i64 sc) ∧ w3.cell? ⟨w.heap.size, 1, none⟩ = some (.slice a n c) ∧ w3.cell? ⟨w.heap.size, 2, none⟩ = some (.int .i64 sum) ∧ w3.cell? ⟨w.heap.size, 3, none⟩ = some (.slice a' n' c') := ⟨((bcell hb3).1 _ _ hs2).trans y0, ((bcell hb3).1 _ _ hs2).trans y1, ((bcell hb3).1 _ _ hs2).trans y2, ((bcell hb3).1 _ _ hs2).trans y3⟩; have hs3 := Nat.lt_of_lt_of_le hs2 hb3.size; have hb13 := hb12.trans (hb3.mono (Nat.le_of_lt hs2))) | (go_at_call 5; refine (HO.out w3 hb13).mono ?_; rintro _ w4 ⟨v4, rfl, hown4, hb4⟩; obtain ⟨a4, c4, rfl⟩ := owns_shape hown4))
        go_ret
        exact ⟨ret_bool (by rw [hE.out]; simp), hb13.trans (hb4.mono (Nat.le_of_lt hs3))⟩
      · have hf' : few2B cells 12 sc ls = false := by simpa using hf
        rw [hf'] at HF hE
        go_wp2_with (first | (go_at_call 11; refine HS.out.mono ?_; rintro _ w1 ⟨rfl, hb0⟩; obtain ⟨⟨x0, x1, x2, x3⟩, hb1, hs1⟩ := box4 hb0; clear hb0) | (go_at_call 12; refine (HC.out w1 hb1).mono ?_; rintro _ w2 ⟨rfl, hb2⟩; obtain ⟨y0, y1, y2, y3⟩ : w2.cell? ⟨w.heap.size, 0, none⟩ = some (.int .i64 sc) ∧ w2.cell? ⟨w.heap.size, 1, none⟩ = some (.slice a n c) ∧ w2.cell? ⟨w.heap.size, 2, none⟩ = some (.int .i64 sum) ∧ w2.cell? ⟨w.heap.size, 3, none⟩ = some (.slice a' n' c') := ⟨((bcell hb2).1 _ _ hs1).trans x0, ((bcell hb2).1 _ _ hs1).trans x1, ((bcell hb2).1 _ _ hs1).trans x2, ((bcell hb2).1 _ _ hs1).trans x3⟩; have hs2 := Nat.lt_of_lt_of_le hs1 hb2.size; have hb12 := hb1.trans (hb2.mono (Nat.le_of_lt hs1))) | (go_at_call 13; refine (HF.out w2 hb12).mono ?_; rintro _ w3 ⟨rfl, hb3⟩; obtain ⟨z0, z1, z2, z3⟩ : w3.cell? ⟨w.heap.size, 0, none⟩ = some (.int .i64 sc) ∧ w3.cell? ⟨w.heap.size, 1, none⟩ = some (.slice a n c) ∧ w3.cell? ⟨w.heap.size, 2, none⟩ = some (.int .i64 sum) ∧ w3.cell? ⟨w.heap.size, 3, none⟩ = some (.slice a' n' c') := ⟨((bcell hb3).1 _ _ hs2).trans y0, ((bcell hb3).1 _ _ hs2).trans y1, ((bcell hb3).1 _ _ hs2).trans y2, ((bcell hb3).1 _ _ hs2).trans y3⟩; have hs3 := Nat.lt_of_lt_of_le hs2 hb3.size; have hb13 := hb12.trans (hb3.mono (Nat.le_of_lt hs2))) | (go_at_call 5; refine (HO.out w3 hb13).mono ?_; rintro _ w4 ⟨v4, rfl, hown4, hb4⟩; obtain ⟨a4, c4, rfl⟩ := owns_shape hown4))
        go_ret
        exact ⟨ret_bool (by rw [hE.out]; simp), hb13⟩
    · have he' : (taskErr sc ls sum g == 0) = false := by simpa using he
      rw [he'] at hE
      go_wp2_with (first | (go_at_call 11; refine HS.out.mono ?_; rintro _ w1 ⟨rfl, hb0⟩; obtain ⟨⟨x0, x1, x2, x3⟩, hb1, hs1⟩ := box4 hb0; clear hb0) | (go_at_call 12; refine (HC.out w1 hb1).mono ?_; rintro _ w2 ⟨rfl, hb2⟩; obtain ⟨y0, y1, y2, y3⟩ : w2.cell? ⟨w.heap.size, 0, none⟩ = some (.int .i64 sc) ∧ w2.cell? ⟨w.heap.size, 1, none⟩ = some (.slice a n c) ∧ w2.cell? ⟨w.heap.size, 2, none⟩ = some (.int .i64 sum) ∧ w2.cell? ⟨w.heap.size, 3, none⟩ = some (.slice a' n' c') := ⟨((bcell hb2).1 _ _ hs1).trans x0, ((bcell hb2).1 _ _ hs1).trans x1, ((bcell hb2).1 _ _ hs1).trans x2, ((bcell hb2).1 _ _ hs1).trans x3⟩; have hs2 := Nat.lt_of_lt_of_le hs1 hb2.size; have hb12 := hb1.trans (hb2.mono (Nat.le_of_lt hs1))) | (go_at_call 13; refine (HF.out w2 hb12).mono ?_; rintro _ w3 ⟨rfl, hb3⟩; obtain ⟨z0, z1, z2, z3⟩ : w3.cell? ⟨w.heap.size, 0, none⟩ = some (.int .i64 sc) ∧ w3.cell? ⟨w.heap.size, 1, none⟩ = some (.slice a n c) ∧ w3.cell? ⟨w.heap.size, 2, none⟩ = some (.int .i64 sum) ∧ w3.cell? ⟨w.heap.size, 3, none⟩ = some (.slice a' n' c') := ⟨((bcell hb3).1 _ _ hs2).trans y0, ((bcell hb3).1 _ _ hs2).trans y1, ((bcell hb3).1 _ _ hs2).trans y2, ((bcell hb3).1 _ _ hs2).trans y3⟩; have hs3 := Nat.lt_of_lt_of_le hs2 hb3.size; have hb13 := hb12.trans (hb3.mono (Nat.le_of_lt hs2))) | (go_at_call 5; refine (HO.out w3 hb13).mono ?_; rintro _ w4 ⟨v4, rfl, hown4, hb4⟩; obtain ⟨a4, c4, rfl⟩ := owns_shape hown4))
      go_ret
      exact ⟨ret_bool (by rw [hE.out]; simp), hb12⟩
  · have hs' : short6B cells ls g = false := by simpa using hs
    rw [hs'] at HS hE
    go_wp2_with (first | (go_at_call 11; refine HS.out.mono ?_; rintro _ w1 ⟨rfl, hb0⟩; obtain ⟨⟨x0, x1, x2, x3⟩, hb1, hs1⟩ := box4 hb0; clear hb0) | (go_at_call 12; refine (HC.out w1 hb1).mono ?_; rintro _ w2 ⟨rfl, hb2⟩; obtain ⟨y0, y1, y2, y3⟩ : w2.cell? ⟨w.heap.size, 0, none⟩ = some (.int .i64 sc) ∧ w2.cell? ⟨w.heap.size, 1, none⟩ = some (.slice a n c) ∧ w2.cell? ⟨w.heap.size, 2, none⟩ = some (.int .i64 sum) ∧ w2.cell? ⟨w.heap.size, 3, none⟩ = some (.slice a' n' c') := ⟨((bcell hb2).1 _ _ hs1).trans x0, ((bcell hb2).1 _ _ hs1).trans x1, ((bcell hb2).1 _ _ hs1).trans x2, ((bcell hb2).1 _ _ hs1).trans x3⟩; have hs2 := Nat.lt_of_lt_of_le hs1 hb2.size; have hb12 := hb1.trans (hb2.mono (Nat.le_of_lt hs1))) | (go_at_call 13; refine (HF.out w2 hb12).mono ?_; rintro _ w3 ⟨rfl, hb3⟩; obtain ⟨z0, z1, z2, z3⟩ : w3.cell? ⟨w.heap.size, 0, none⟩ = some (.int .i64 sc) ∧ w3.cell? ⟨w.heap.size, 1, none⟩ = some (.slice a n c) ∧ w3.cell? ⟨w.heap.size, 2, none⟩ = some (.int .i64 sum) ∧ w3.cell? ⟨w.heap.size, 3, none⟩ = some (.slice a' n' c') := ⟨((bcell hb3).1 _ _ hs2).trans y0, ((bcell hb3).1 _ _ hs2).trans y1, ((bcell hb3).1 _ _ hs2).trans y2, ((bcell hb3).1 _ _ hs2).trans y3⟩; have hs3 := Nat.lt_of_lt_of_le hs2 hb3.size; have hb13 := hb12.trans (hb3.mono (Nat.le_of_lt hs2))) | (go_at_call 5; refine (HO.out w3 hb13).mono ?_; rintro _ w4 ⟨v4, rfl, hown4, hb4⟩; obtain ⟨a4, c4, rfl⟩ := owns_shape hown4))
    go_ret
    exact ⟨ret_bool (by rw [hE.out]; simp), hb1⟩

end Go.Proofs.Ytcblpobiefmjmaa
