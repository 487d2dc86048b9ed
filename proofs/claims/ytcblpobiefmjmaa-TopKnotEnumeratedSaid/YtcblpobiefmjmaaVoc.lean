/- Words for what lies in memory: slices of integers, slices of these; what a call keeps. -/
import Derived.Test.YtcblpobiefmjmaaProg
import Derived.Test.YtcblpobiefmjmaaReg
import Derived.WalkKit
import Derived.WalkSpells
import Derived.WalkLawsBesides
import Derived.BigQuiet
import Derived.Deep.LoopGhost
namespace Go.Proofs.Ytcblpobiefmjmaa
open Go Go.RowKit

theorem bcell {W w1 : World} (hb : Below W.heap.size W w1) : (∀ b o, b < W.heap.size → w1.cell? ⟨b, o, none⟩ = W.cell? ⟨b, o, none⟩) ∧ (∀ b o, b < W.heap.size → w1.frozen? ⟨b, o, none⟩ = W.frozen? ⟨b, o, none⟩) :=
  ⟨fun b o h => hb.cell (p := ⟨b, o, none⟩) h, fun b o h => hb.frozen (p := ⟨b, o, none⟩) h⟩

theorem ret_int {a b : Int} (h : a = b) : Ending.returned (.int .i64 a) = .returned (.int .i64 b) := by rw [h]
theorem ret_bool {a b : Bool} (h : a = b) : Ending.returned (.bool a) = .returned (.bool b) := by rw [h]

/-- The n elements from a on are the integers xs. -/
def IC (w : World) (a : Option Addr) (n : Nat) (xs : List Int) : Prop :=
  (xs.length = n ∧ n ≤ 17592186044416) ∧ ∀ k, k < n → ∃ b off, a = some ⟨b, off, none⟩ ∧ b < w.heap.size ∧ w.cell? ⟨b, off + k, none⟩ = some (.int .i64 (xs[k]?.getD 0))

theorem IC.mono {w w' : World} {a : Option Addr} {n : Nat} {xs : List Int} (h : IC w a n xs) (hb : Below w.heap.size w w') : IC w' a n xs :=
  ⟨h.1, fun k hk => by
    obtain ⟨b, off, e, hlt, hc⟩ := h.2 k hk
    exact ⟨b, off, e, Nat.lt_of_lt_of_le hlt hb.size, ((bcell hb).1 b _ hlt).trans hc⟩⟩

theorem IC.len {w : World} {a : Option Addr} {n : Nat} {xs : List Int} (h : IC w a n xs) : xs.length = n := h.1.1
theorem IC.small {w : World} {a : Option Addr} {n : Nat} {xs : List Int} (h : IC w a n xs) : n ≤ 17592186044416 := h.1.2

/-- The n elements from a on are slices that read as the lists xss. -/
def RC (w : World) (a : Option Addr) (n : Nat) (xss : List (List Int)) : Prop :=
  (xss.length = n ∧ n ≤ 17592186044416) ∧ ∀ k, k < n → ∃ b off a' n' c', a = some ⟨b, off, none⟩ ∧ b < w.heap.size ∧ w.cell? ⟨b, off + k, none⟩ = some (.slice a' n' c') ∧ IC w a' n' (xss[k]?.getD []) ∧ n' ≤ c'

theorem RC.mono {w w' : World} {a : Option Addr} {n : Nat} {xss : List (List Int)} (h : RC w a n xss) (hb : Below w.heap.size w w') : RC w' a n xss :=
  ⟨h.1, fun k hk => by
    obtain ⟨b, off, a', n', c', e, hlt, hc, hi⟩ := h.2 k hk
    exact ⟨b, off, a', n', c', e, Nat.lt_of_lt_of_le hlt hb.size, ((bcell hb).1 b _ hlt).trans hc, hi.1.mono hb, hi.2⟩⟩

theorem RC.len {w : World} {a : Option Addr} {n : Nat} {xss : List (List Int)} (h : RC w a n xss) : xss.length = n := h.1.1
theorem RC.small {w : World} {a : Option Addr} {n : Nat} {xss : List (List Int)} (h : RC w a n xss) : n ≤ 17592186044416 := h.1.2

theorem Below.here (w : World) : Below w.heap.size w w := Below.refl _ _

/-- The first k elements of a slice. -/
theorem IC.take {w : World} {a : Option Addr} {n : Nat} {xs : List Int} (h : IC w a n xs) (k : Nat) (hk : k ≤ n) : IC w a k (xs.take k) :=
  ⟨⟨by rw [List.length_take, h.len]; omega, by have := h.small; omega⟩, fun j hj => by
    obtain ⟨b, off, e, hlt, hc⟩ := h.2 j (by omega)
    exact ⟨b, off, e, hlt, by rw [hc, List.getElem?_take, if_pos hj]⟩⟩

theorem RC.take {w : World} {a : Option Addr} {n : Nat} {xss : List (List Int)} (h : RC w a n xss) (k : Nat) (hk : k ≤ n) : RC w a k (xss.take k) :=
  ⟨⟨by rw [List.length_take, h.len]; omega, by have := h.small; omega⟩, fun j hj => by
    obtain ⟨b, off, a', n', c', e, hlt, hc, hi⟩ := h.2 j (by omega)
    exact ⟨b, off, a', n', c', e, hlt, hc, by rw [List.getElem?_take, if_pos hj]; exact hi⟩⟩

theorem take_snoc {α : Type} (xs : List α) (d : α) (k : Nat) (h : k < xs.length) : xs.take (k + 1) = xs.take k ++ [xs[k]?.getD d] := by
  rw [List.take_succ_eq_append_getElem h, List.getElem?_eq_getElem h]; rfl

end Go.Proofs.Ytcblpobiefmjmaa
