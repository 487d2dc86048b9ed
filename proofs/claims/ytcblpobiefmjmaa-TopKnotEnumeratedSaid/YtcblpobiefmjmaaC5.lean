/- Contracts: sets of numbers from 1 to 256, as four words. -/
import Derived.Test.YtcblpobiefmjmaaC4
import Derived.Laws.BitsAllLaws
namespace Go.Proofs.Ytcblpobiefmjmaa
open Go Go.RowKit
attribute [local go_sem] over_cell

/-- Word q of a set. -/
def word (M q : Nat) : Nat := M / 2 ^ (64 * q) % 18446744073709551616

theorem word_lt (M q : Nat) : word M q < 18446744073709551616 := Nat.mod_lt _ (by decide)

theorem testBit_word (M q r : Nat) (hr : r < 64) : (word M q).testBit r = M.testBit (64 * q + r) := by
  unfold word
  rw [show (18446744073709551616 : Nat) = 2 ^ 64 from by decide, Nat.testBit_mod_two_pow, Nat.testBit_div_two_pow]
  simp [hr, Nat.add_comm]

theorem word_or (M q q' r : Nat) (hr : r < 64) : word (M ||| 2 ^ (64 * q + r)) q' = if q' = q then word M q' ||| 2 ^ r else word M q' := by
  apply Nat.eq_of_testBit_eq
  intro i
  by_cases hi : i < 64
  · rw [testBit_word _ _ _ hi, Nat.testBit_or, Nat.testBit_two_pow]
    by_cases e : q' = q
    · subst e
      rw [if_pos rfl, Nat.testBit_or, testBit_word _ _ _ hi, Nat.testBit_two_pow]
      congr 1
      by_cases e2 : r = i
      · simp [e2]
      · simp [e2]
    · rw [if_neg e, testBit_word _ _ _ hi]
      have : ¬ 64 * q + r = 64 * q' + i := by omega
      simp [this]
  · have h1 : ∀ n : Nat, n < 18446744073709551616 → n.testBit i = false := fun n hn => Nat.testBit_lt_two_pow (Nat.lt_of_lt_of_le hn (by rw [show (18446744073709551616 : Nat) = 2 ^ 64 from by decide]; exact Nat.pow_le_pow_right (by decide) (by omega)))
    rw [h1 _ (word_lt _ _)]
    split
    · rw [Nat.testBit_or, h1 _ (word_lt _ _), Nat.testBit_two_pow]
      have : ¬ r = i := by omega
      simp [this]
    · rw [h1 _ (word_lt _ _)]

/-- A number taken away. -/
def clearBit (M k : Nat) : Nat := if M.testBit k then M ^^^ 2 ^ k else M

theorem testBit_clear (M k i : Nat) : (clearBit M k).testBit i = (M.testBit i && decide (i ≠ k)) := by
  unfold clearBit
  split
  · rename_i h
    rw [Nat.testBit_xor, Nat.testBit_two_pow]
    by_cases ei : k = i
    · subst ei; simp [h]
    · have : ¬ i = k := fun e => ei e.symm
      simp [ei, this]
  · rename_i h
    by_cases ei : i = k
    · subst ei; simpa using h
    · simp [ei]

theorem word_clear (M q q' r : Nat) (hr : r < 64) : word (clearBit M (64 * q + r)) q' = if q' = q then word M q' &&& (18446744073709551615 - 2 ^ r) else word M q' := by
  apply Nat.eq_of_testBit_eq
  intro i
  have hmask : ∀ i, i < 64 → (18446744073709551615 - 2 ^ r).testBit i = decide (i ≠ r) := by
    intro i hi
    have e64 : (2 : Nat) ^ 64 = 18446744073709551616 := by decide
    rw [show 18446744073709551615 - 2 ^ r = 2 ^ 64 - (2 ^ r + 1) from by omega]
    rw [Nat.testBit_two_pow_sub_succ (Nat.pow_lt_pow_right (by decide) hr), Nat.testBit_two_pow]
    by_cases e : r = i
    · subst e; simp
    · have : ¬ i = r := fun h => e h.symm
      simp [hi, e, this]
  by_cases hi : i < 64
  · rw [testBit_word _ _ _ hi, testBit_clear]
    by_cases e : q' = q
    · subst e
      rw [if_pos rfl, Nat.testBit_and, testBit_word _ _ _ hi, hmask i hi]
      congr 1
      simp
    · rw [if_neg e, testBit_word _ _ _ hi]
      have : 64 * q' + i ≠ 64 * q + r := by omega
      simp [this]
  · have h1 : ∀ n : Nat, n < 18446744073709551616 → n.testBit i = false := fun n hn => Nat.testBit_lt_two_pow (Nat.lt_of_lt_of_le hn (by rw [show (18446744073709551616 : Nat) = 2 ^ 64 from by decide]; exact Nat.pow_le_pow_right (by decide) (by omega)))
    rw [h1 _ (word_lt _ _)]
    split
    · rw [Nat.testBit_and, h1 _ (word_lt _ _)]; simp
    · rw [h1 _ (word_lt _ _)]

end Go.Proofs.Ytcblpobiefmjmaa
