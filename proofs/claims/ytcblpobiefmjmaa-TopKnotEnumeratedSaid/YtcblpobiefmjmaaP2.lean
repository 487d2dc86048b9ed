/- Plain law: the paths of a search that are found. -/
import Derived.Test.YtcblpobiefmjmaaP1
namespace Go.Proofs.Ytcblpobiefmjmaa
open Go Go.RowKit

/-- A solution as a path: nothing on the way is wrong. -/
structure SolP (C : Cst) (S : List Int) : Prop where
  ok : OkP C S
  len : S.length = C.O.length
  right : ∀ k, k ≤ C.O.length → wrongB C (S.take k) = false

def PLt (P S : List Int) : Prop := ∃ Q x y R R', P = Q ++ x :: R ∧ S = Q ++ y :: R' ∧ x < y

theorem aboveM_le {M x j : Nat} (h1 : x < j) (h2 : j ≤ 256) (h3 : M.testBit (j - 1) = true) : 0 < aboveM M x ∧ aboveM M x ≤ j := by
  unfold aboveM
  cases e : (List.range 257).find? (fun j => decide (x < j) && M.testBit (j - 1)) with
  | none =>
    rw [List.find?_eq_none] at e
    have := e j (List.mem_range.2 (by omega))
    simp [h1, h3] at this
  | some i =>
    rw [List.find?_range_eq_some] at e
    obtain ⟨e1, _, e3⟩ := e
    simp only [Bool.and_eq_true, decide_eq_true_eq] at e1
    show 0 < i ∧ i ≤ j
    refine ⟨by omega, Nat.le_of_not_lt fun hlt => ?_⟩
    have := e3 j hlt
    simp [h1, h3] at this

theorem above_le {C : Cst} {Q : List Int} {x : Nat} {y : Int} (hf : Fine C) (hy : y ∈ unusedL C.g) (hq : y ∉ Q) (hxy : (x : Int) < y) : 0 < aboveM (maskL (leftL C Q)) x ∧ ((aboveM (maskL (leftL C Q)) x : Nat) : Int) ≤ y := by
  have h1 := mem_unused.1 hy
  have h2 := hf.len
  have h3 := hf.most
  have := aboveM_le (M := maskL (leftL C Q)) (x := x) (j := y.toNat) (by omega) (by omega) (by
    rw [testBit_maskL, hasB_left, show ((y.toNat - 1 : Nat) : Int) + 1 = y from by omega, hasB_iff.2 hy]
    simp only [Bool.true_and, Bool.not_eq_true']
    rw [Bool.eq_false_iff]
    exact fun e => hq (hasB_iff.1 e))
  exact ⟨this.1, by omega⟩

theorem back_reach {C : Cst} {S Q S' : List Int} {x y : Int} (hf : Fine C) (hS : S = Q ++ y :: S') (hx : 0 ≤ x) (hxy : x < y) (hy : y ∈ unusedL C.g) (hq : y ∉ Q) : ∀ U : List Int, ∃ P', backP C (U ++ x :: Q.reverse) = some P' ∧ (P' <+: S ∨ PLt P' S)
  | [] => by
    have ha := above_le (Q := Q) (x := x.toNat) hf hy hq (by omega)
    refine ⟨Q ++ [((aboveM (maskL (leftL C Q)) x.toNat : Nat) : Int)], ?_, ?_⟩
    · show backP C (x :: Q.reverse) = _
      unfold backP
      rw [List.reverse_reverse, if_pos ha.1]
    · rcases Int.lt_or_eq_of_le ha.2 with h | h
      · exact .inr ⟨Q, _, y, [], S', rfl, hS, h⟩
      · left
        rw [h, hS]
        exact ⟨S', by simp⟩
  | z :: U => by
    rw [List.cons_append]
    unfold backP
    by_cases ha : 0 < aboveM (maskL (leftL C (U ++ x :: Q.reverse).reverse)) z.toNat
    · rw [if_pos ha]
      refine ⟨_, rfl, .inr ⟨Q, x, y, U.reverse ++ [((aboveM (maskL (leftL C (U ++ x :: Q.reverse).reverse)) z.toNat : Nat) : Int)], S', ?_, hS, hxy⟩⟩
      generalize ((aboveM (maskL (leftL C (U ++ x :: Q.reverse).reverse)) z.toNat : Nat) : Int) = v
      rw [List.reverse_append, List.reverse_cons, List.reverse_reverse]
      simp
    · rw [if_neg ha]
      exact back_reach hf hS hx hxy hy hq U

theorem next_reach {C : Cst} {P S : List Int} (hf : Fine C) (ho : OkP C P) (hS : SolP C S) (h : (P <+: S ∧ P ≠ S) ∨ PLt P S) : ∃ P', nextP C P = some P' ∧ (P' <+: S ∨ PLt P' S) := by
  unfold nextP
  rcases h with ⟨⟨T, hT⟩, hne⟩ | ⟨Q, x, y, R, R', hP, hSe, hxy⟩
  · cases T with
    | nil => exact absurd (by simpa using hT) hne
    | cons y S' =>
      have hl : P.length < C.O.length := by rw [← hS.len, ← hT]; simp
      have hw : wrongB C P = false := by
        have := hS.right P.length (by omega)
        rwa [← hT, List.take_left] at this
      rw [if_pos ⟨by rw [beq_eq_false_iff_ne]; omega, hw⟩]
      have hy : y ∈ unusedL C.g := hS.ok.num y (by rw [← hT]; simp)
      have hq : y ∉ P := by
        have hn := hS.ok.nodup
        rw [← hT, List.nodup_append] at hn
        exact fun hm => hn.2.2 y hm y (by simp) rfl
      have hy1 := mem_unused.1 hy
      have ha := above_le (Q := P) (x := 0) hf hy hq (by omega)
      refine ⟨_, rfl, ?_⟩
      rcases Int.lt_or_eq_of_le ha.2 with h | h
      · exact .inr ⟨P, _, y, [], S', rfl, hT.symm, h⟩
      · left
        rw [h, ← hT]
        exact ⟨S', by simp⟩
  · have hy : y ∈ unusedL C.g := hS.ok.num y (by rw [hSe]; simp)
    have hq : y ∉ Q := by
      have hn := hS.ok.nodup
      rw [hSe, List.nodup_append] at hn
      exact fun hm => hn.2.2 y hm y (by simp) rfl
    have hx := mem_unused.1 (ho.num x (by rw [hP]; simp))
    split
    · refine ⟨_, rfl, .inr ⟨Q, x, y, R ++ [((aboveM (maskL (leftL C P)) 0 : Nat) : Int)], R', ?_, hSe, hxy⟩⟩
      generalize ((aboveM (maskL (leftL C P)) 0 : Nat) : Int) = v
      rw [hP]; simp
    · have := back_reach hf hSe (by omega) hxy hy hq R.reverse
      rw [hP, List.reverse_append, List.reverse_cons]
      simpa using this

theorem found_mem {C : Cst} {S : List Int} (he : Even C) (hf : Fine C) (hS : SolP C S) : ∀ (n : Nat) (P : List Int), fuelP C P = n → OkP C P → ((P <+: S ∧ P ≠ S) ∨ PLt P S) → fillP C S ∈ found C P := by
  intro n
  induction n using Nat.strongRecOn with
  | _ n ih =>
    intro P hn ho h
    obtain ⟨P', hP', hr⟩ := next_reach hf ho hS h
    rw [found_step he hf ho, hP']
    have hlt := fuelP_lt he hf ho hP'
    have hok := nextP_ok he hf ho hP'
    simp only
    by_cases e : P' = S
    · subst e
      have hw := hS.right C.O.length (Nat.le_refl _)
      rw [List.take_of_length_le (by rw [hS.len]; omega)] at hw
      rw [if_pos ⟨by rw [hS.len]; simp, hw⟩]
      simp
    · refine List.mem_append_right _ (ih (fuelP C P') (by omega) P' rfl hok ?_)
      rcases hr with hr | hr
      · exact .inl ⟨hr, e⟩
      · exact .inr hr

/-- No path on the way is wrong. -/
def Rch (C : Cst) (P : List Int) : Prop := ∀ k, k < P.length → wrongB C (P.take k) = false

theorem backP_shape {C : Cst} : ∀ (R P' : List Int), backP C R = some P' → ∃ Q a U z, P' = Q ++ [a] ∧ R = U ++ z :: Q.reverse
  | [], P', h => by simp [backP] at h
  | x :: R, P', h => by
    unfold backP at h
    split at h
    · cases h
      exact ⟨_, _, [], x, rfl, by simp⟩
    · obtain ⟨Q, a, U, z, h1, h2⟩ := backP_shape R P' h
      exact ⟨Q, a, x :: U, z, h1, by rw [h2]; rfl⟩

theorem rch_next {C : Cst} {P P' : List Int} (h : Rch C P) (hn : nextP C P = some P') : Rch C P' := by
  unfold nextP at hn
  split at hn
  · rename_i hc
    cases hn
    intro k hk
    rw [List.length_append, List.length_singleton] at hk
    rcases Nat.lt_or_ge k P.length with h1 | h1
    · rw [List.take_append_of_le_length (by omega)]; exact h k h1
    · rw [show k = P.length from by omega, List.take_left]; exact hc.2
  · obtain ⟨Q, a, U, z, h1, h2⟩ := backP_shape _ _ hn
    have h3 : P = Q ++ z :: U.reverse := by
      have := congrArg List.reverse h2
      rw [List.reverse_reverse] at this
      rw [this]; simp
    subst h1
    intro k hk
    rw [List.length_append, List.length_singleton] at hk
    rw [List.take_append_of_le_length (by omega)]
    have := h k (by rw [h3]; simp; omega)
    rwa [h3, List.take_append_of_le_length (by omega)] at this

theorem found_sound {C : Cst} (he : Even C) (hf : Fine C) : ∀ (n : Nat) (P : List Int), fuelP C P = n → OkP C P → Rch C P → ∀ f, f ∈ found C P → ∃ S, SolP C S ∧ f = fillP C S ∧ val C.O.length P < val C.O.length S := by
  intro n
  induction n using Nat.strongRecOn with
  | _ n ih =>
    intro P hn ho hr f hm
    rw [found_step he hf ho] at hm
    cases hP : nextP C P with
    | none => rw [hP] at hm; cases hm
    | some P' =>
      rw [hP] at hm
      simp only at hm
      have hlt := fuelP_lt he hf ho hP
      have hok := nextP_ok he hf ho hP
      have hv := nextP_val he hf ho hP
      have hr' := rch_next hr hP
      rcases List.mem_append.1 hm with hm | hm
      · split at hm
        · rename_i hc
          rw [List.mem_singleton.1 hm]
          have hl : P'.length = C.O.length := by simpa using hc.1
          refine ⟨P', ⟨hok, hl, fun k hk => ?_⟩, rfl, hv⟩
          rcases Nat.lt_or_ge k P'.length with h1 | h1
          · exact hr' k h1
          · rw [List.take_of_length_le h1]; exact hc.2
        · cases hm
      · obtain ⟨S, h1, h2, h3⟩ := ih (fuelP C P') (by omega) P' rfl hok hr' f hm
        exact ⟨S, h1, h2, by omega⟩

end Go.Proofs.Ytcblpobiefmjmaa
