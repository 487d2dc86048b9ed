/- Plain law: what the functions of a small task answer. -/
import Derived.Test.YtcblpobiefmjmaaP4
import Derived.Test.YtcblpobiefmjmaaI6
import Derived.Test.YtcblpobiefmjmaaI4
import Derived.Test.YtcblpobiefmjmaaC26
namespace Go.Proofs.Ytcblpobiefmjmaa
open Go Go.RowKit

/-- What the three functions answer for a task with few open cells. -/
structure Answers (cells : Int) (ls : List (List Int)) (sum : Int) (g : List Int) (A : List (List Int)) : Prop where
  cE : countE cells ls sum g = 0
  cN : countN cells ls sum g = ((A.filter (extB g)).length : Int)
  pE : compE cells ls sum g 256 = 0
  pL : compL cells ls sum g 256 = (A.filter (extB g)).take 256
  fE : filsE cells ls sum = if 1024 < A.length then 5 else 0
  fL : filsL cells ls sum = if 1024 < A.length then [] else A
  len : ∀ f, f ∈ A → f.length = g.length
  big : (A.length : Int) ≤ 999999999
  glen : (g.length : Int) ≤ 9
  sum1 : -1000000000000 ≤ sum
  sum2 : sum ≤ 1000000000000

theorem answers {cells sum : Int} {ls : List (List Int)} {g : List Int} (h : few6B 9 7 cells sum ls g = true) : ∃ A, Answers cells ls sum g A := by
  unfold few6B at h
  simp only [Bool.and_eq_true, decide_eq_true_eq, beq_iff_eq] at h
  obtain ⟨⟨⟨h1, h2⟩, h3⟩, h4⟩ := h
  have G := goodTask h2
  unfold few2B at h3
  simp only [Bool.and_eq_true, decide_eq_true_eq, beq_iff_eq] at h3
  obtain ⟨⟨_, h5⟩, h6⟩ := h3
  have hsm : smallErr cells ls sum g = 0 := by
    unfold smallErr
    rw [h2, if_neg (by decide)]
    unfold whenV
    rw [if_neg (by simp; omega)]
  have hks : ksmallErr cells ls = 0 := by
    unfold ksmallErr
    rw [h5]
    unfold firstL whenV
    rw [if_neg (by decide)]
    unfold firstL
    rw [if_neg (by simp; omega)]
    rfl
  have hlen : cells.toNat = g.length := by have := G.len; omega
  have hg9 : g.length ≤ 9 := by have := G.len; omega
  have hcnt : ((placeL ls sum g.length g.length []).length : Int) ≤ 999999999 := by
    have h7 := placeL_count ls sum g.length g.length []
    have h8 : g.length ^ g.length ≤ 9 ^ 9 := Nat.le_trans (Nat.pow_le_pow_left hg9 _) (Nat.pow_le_pow_right (by decide) hg9)
    have h9 : (9 : Nat) ^ 9 = 387420489 := by decide
    omega
  have he := sols_eq G
  have hle : (((placeL ls sum g.length g.length []).filter (extB g)).length : Int) ≤ 999999999 := by
    have := List.length_filter_le (extB g) (placeL ls sum g.length g.length [])
    omega
  have hpE : compE cells ls sum g 256 = 0 := by
    unfold compE
    rw [h2, hsm]
    decide
  refine ⟨placeL ls sum g.length g.length [], ⟨?_, ?_, hpE, ?_, ?_, ?_, fun f hf => ?_, hcnt, by omega, by have := G.sum1; omega, by have := G.sum2; omega⟩⟩
  · unfold countE
    rw [hsm, if_neg (by decide), he, if_neg (by omega)]
  · unfold countN
    rw [hsm, if_neg (by decide), he, if_neg (by omega)]
  · unfold compL
    rw [hpE, if_neg (by decide), he]
    rfl
  · unfold filsE fillAll
    rw [hks, if_neg (by decide), hlen]
  · unfold filsL fillAll
    rw [hks, if_neg (by decide), hlen]
  · have := placeL_len ls sum g.length g.length [] f hf
    simpa using this

/-- How many of the first i are kept. -/
def keptTo (g : List Int) (A : List (List Int)) (i : Nat) : Nat := ((A.take i).filter (extB g)).length

theorem keptTo_zero (g : List Int) (A : List (List Int)) : keptTo g A 0 = 0 := rfl
theorem keptTo_le (g : List Int) (A : List (List Int)) (i : Nat) : keptTo g A i ≤ i := by
  have := List.length_filter_le (extB g) (A.take i)
  rw [List.length_take] at this
  unfold keptTo
  omega
theorem keptTo_all (g : List Int) (A : List (List Int)) : keptTo g A A.length = (A.filter (extB g)).length := by
  unfold keptTo; rw [List.take_length]
theorem keptTo_hit {g : List Int} {A : List (List Int)} {i : Nat} (hi : i < A.length) (h : extB g (A[i]?.getD []) = true) : keptTo g A (i + 1) = keptTo g A i + 1 ∧ (A.filter (extB g))[keptTo g A i]? = some (A[i]?.getD []) := by
  rw [List.getElem?_eq_getElem hi, Option.getD_some] at h ⊢
  constructor
  · unfold keptTo
    rw [List.take_add_one, List.getElem?_eq_getElem hi, List.filter_append]
    simp [h]
  · have e : A = A.take i ++ A[i] :: A.drop (i + 1) := by rw [← List.drop_eq_getElem_cons hi, List.take_append_drop]
    have e2 : A.filter (extB g) = (A.take i).filter (extB g) ++ A[i] :: (A.drop (i + 1)).filter (extB g) := by
      conv => lhs; rw [e]
      rw [List.filter_append, List.filter_cons, if_pos h]
    rw [e2]
    unfold keptTo
    rw [List.getElem?_append_right (Nat.le_refl _), Nat.sub_self]
    rfl
theorem keptTo_miss {g : List Int} {A : List (List Int)} {i : Nat} (hi : i < A.length) (h : extB g (A[i]?.getD []) = false) : keptTo g A (i + 1) = keptTo g A i := by
  rw [List.getElem?_eq_getElem hi, Option.getD_some] at h
  unfold keptTo
  rw [List.take_add_one, List.getElem?_eq_getElem hi, List.filter_append]
  simp [h]
/-- The place of a kept one among the first ones. -/
theorem kept_take {g : List Int} {A : List (List Int)} {i : Nat} (hi : i < A.length) (h : extB g (A[i]?.getD []) = true) (hk : keptTo g A i < 256) : keptTo g A i < ((A.filter (extB g)).take 256).length ∧ ((A.filter (extB g)).take 256)[keptTo g A i]?.getD [] = A[i]?.getD [] := by
  have h1 := (keptTo_hit hi h).2
  have h2 := (List.getElem?_eq_some_iff.1 h1).1
  refine ⟨by rw [List.length_take]; omega, ?_⟩
  rw [List.getElem?_take, if_pos hk, h1]
  rfl

/-- Whether the first j given numbers are there. -/
def extTo (g f : List Int) (j : Nat) : Bool := (List.range j).all fun i => g[i]?.getD 0 == 0 || g[i]?.getD 0 == f[i]?.getD 0
theorem extTo_zero (g f : List Int) : extTo g f 0 = true := rfl
theorem extTo_all (g f : List Int) : extTo g f g.length = extB g f := rfl
theorem extTo_succ (g f : List Int) (j : Nat) : extTo g f (j + 1) = (extTo g f j && (g[j]?.getD 0 == 0 || g[j]?.getD 0 == f[j]?.getD 0)) := by
  unfold extTo
  rw [List.range_succ, List.all_append]
  simp

end Go.Proofs.Ytcblpobiefmjmaa
