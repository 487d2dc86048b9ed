/- Plain law: what the enumeration visits, and in which order. -/
import Derived.Test.YtcblpobiefmjmaaK7
import Derived.Test.YtcblpobiefmjmaaL1
namespace Go.Proofs.Ytcblpobiefmjmaa
open Go Go.RowKit

/-- The k-th number of a filling may stand there. -/
def stepOk (ls : List (List Int)) (sum : Int) (N : Nat) (f : List Int) (k : Nat) : Prop :=
  (1 ≤ f[k]?.getD 0 ∧ f[k]?.getD 0 ≤ (N : Int)) ∧ hasB (f.take k) (f[k]?.getD 0) = false ∧ okAt ls sum (f.take (k + 1)) = true

theorem take_of_prefix {P f : List Int} {x : Int} (h : f.take (P.length + 1) = P ++ [x]) : f.take P.length = P ∧ f[P.length]?.getD 0 = x ∧ P.length < f.length := by
  have h1 := congrArg List.length h
  rw [List.length_take, List.length_append, List.length_singleton] at h1
  have h2 : P.length < f.length := by omega
  have h3 := take_snoc f 0 P.length h2
  rw [h] at h3
  have h4 := List.append_inj h3 (by rw [List.length_take]; omega)
  refine ⟨h4.1.symm, ?_, h2⟩
  have := h4.2
  simpa using this.symm

theorem mem_placeL (ls : List (List Int)) (sum : Int) (N : Nat) : ∀ (d : Nat) (P f : List Int), f ∈ placeL ls sum N d P ↔ f.length = P.length + d ∧ f.take P.length = P ∧ ∀ k, P.length ≤ k → k < f.length → stepOk ls sum N f k
  | 0, P, f => by
    simp only [placeL, List.mem_singleton]
    constructor
    · rintro rfl
      exact ⟨rfl, List.take_length, fun k h1 h2 => by omega⟩
    · rintro ⟨h1, h2, _⟩
      rw [← h2, List.take_of_length_le (by omega)]
  | d + 1, P, f => by
    simp only [placeL, List.mem_flatMap, List.mem_range]
    constructor
    · rintro ⟨i, hi, h⟩
      by_cases hb : hasB P ((i : Int) + 1) = true
      · rw [if_pos hb] at h; cases h
      rw [if_neg hb] at h
      by_cases ho : okAt ls sum (P ++ [(i : Int) + 1]) = true
      · rw [if_pos ho] at h
        obtain ⟨h1, h2, h3⟩ := (mem_placeL ls sum N d (P ++ [(i : Int) + 1]) f).1 h
        rw [List.length_append, List.length_singleton] at h1 h2 h3
        obtain ⟨h4, h5, h6⟩ := take_of_prefix h2
        refine ⟨by omega, h4, fun k hk1 hk2 => ?_⟩
        rcases Nat.lt_or_ge P.length k with h7 | h7
        · exact h3 k (by omega) hk2
        · have : k = P.length := by omega
          subst this
          refine ⟨by rw [h5]; omega, ?_, by rw [h2]; exact ho⟩
          rw [h4, h5]; simpa using hb
      · rw [if_neg ho] at h; cases h
    · rintro ⟨h1, h2, h3⟩
      have hs := h3 P.length (Nat.le_refl _) (by omega)
      have ht := take_snoc f 0 P.length (by omega)
      rw [h2] at ht
      obtain ⟨hr, hh, ho⟩ := hs
      rw [h2] at hh
      refine ⟨(f[P.length]?.getD 0).toNat - 1, by omega, ?_⟩
      have e : (((f[P.length]?.getD 0).toNat - 1 : Nat) : Int) + 1 = f[P.length]?.getD 0 := by omega
      rw [e, if_neg (by rw [hh]; decide), ← ht, if_pos ho]
      refine (mem_placeL ls sum N d _ f).2 ⟨?_, ?_, ?_⟩
      · rw [List.length_take]; omega
      · rw [List.length_take, show min (P.length + 1) f.length = P.length + 1 from by omega]
      · intro k hk1 hk2
        rw [List.length_take] at hk1
        exact h3 k (by omega) hk2

theorem pairwise_flatMap_range {α : Type} {r : α → α → Prop} (F : Nat → List α) : ∀ (n : Nat), (∀ i, i < n → (F i).Pairwise r) → (∀ i j, i < j → j < n → ∀ a, a ∈ F i → ∀ b, b ∈ F j → r a b) → ((List.range n).flatMap F).Pairwise r
  | 0, _, _ => List.Pairwise.nil
  | n + 1, h1, h2 => by
    rw [List.range_succ, List.flatMap_append, List.pairwise_append]
    refine ⟨pairwise_flatMap_range F n (fun i hi => h1 i (by omega)) (fun i j hij hj => h2 i j hij (by omega)), ?_, ?_⟩
    · simpa using h1 n (by omega)
    · intro a ha b hb
      obtain ⟨i, hi, ha⟩ := List.mem_flatMap.1 ha
      rw [List.flatMap_singleton] at hb
      exact h2 i n (List.mem_range.1 hi) (by omega) a ha b hb

theorem placeL_sorted (ls : List (List Int)) (sum : Int) (N : Nat) : ∀ (d : Nat) (P : List Int), (placeL ls sum N d P).Pairwise Lx
  | 0, P => List.pairwise_singleton _ _
  | d + 1, P => by
    refine pairwise_flatMap_range _ N (fun i _ => ?_) (fun i j hij _ a ha b hb => ?_)
    · split
      · exact List.Pairwise.nil
      · split
        · exact placeL_sorted ls sum N d _
        · exact List.Pairwise.nil
    · have key : ∀ (i : Nat) (f : List Int), f ∈ (if hasB P ((i : Int) + 1) = true then [] else if okAt ls sum (P ++ [(i : Int) + 1]) = true then placeL ls sum N d (P ++ [(i : Int) + 1]) else []) → f.take P.length = P ∧ f[P.length]?.getD 0 = (i : Int) + 1 := by
        intro i f h
        split at h
        · cases h
        · split at h
          · have h2 := ((mem_placeL ls sum N d _ f).1 h).2.1
            rw [List.length_append, List.length_singleton] at h2
            obtain ⟨h4, h5, _⟩ := take_of_prefix h2
            exact ⟨h4, h5⟩
          · cases h
      obtain ⟨ha1, ha2⟩ := key i a ha
      obtain ⟨hb1, hb2⟩ := key j b hb
      refine ⟨P.length, fun k hk => ?_, by rw [ha2, hb2]; omega⟩
      have e1 : (a.take P.length)[k]?.getD 0 = (b.take P.length)[k]?.getD 0 := by rw [ha1, hb1]
      rwa [List.getElem?_take, if_pos hk, List.getElem?_take, if_pos hk] at e1

theorem placeL_count (ls : List (List Int)) (sum : Int) (N : Nat) : ∀ (d : Nat) (P : List Int), (placeL ls sum N d P).length ≤ N ^ d
  | 0, P => by simp [placeL]
  | d + 1, P => by
    rw [placeL_succ]
    have key : ∀ m, (accL ls sum N d P m).length ≤ m * N ^ d := by
      intro m
      induction m with
      | zero => simp [accL]
      | succ m ih =>
        rw [accL_succ, List.length_append, Nat.succ_mul]
        have h2 : (childL ls sum N d P m).length ≤ N ^ d := by
          unfold childL
          split
          · exact Nat.zero_le _
          · split
            · exact placeL_count ls sum N d _
            · exact Nat.zero_le _
        omega
    have := key N
    rw [Nat.pow_succ, Nat.mul_comm]
    exact this

end Go.Proofs.Ytcblpobiefmjmaa
