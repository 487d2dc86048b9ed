/- Plain law: fillings of paths, in their order. -/
import Derived.Test.YtcblpobiefmjmaaP2
namespace Go.Proofs.Ytcblpobiefmjmaa
open Go Go.RowKit

theorem val_lx : ∀ (m : Nat) (P S : List Int), P.length = m → S.length = m → (∀ z, z ∈ P → 0 ≤ z ∧ z ≤ 256) → (∀ z, z ∈ S → 0 ≤ z ∧ z ≤ 256) → val m P < val m S → Lx P S
  | 0, _, _, _, _, _, _, h => by simp [val] at h
  | m + 1, [], _, h1, _, _, _, _ => by simp at h1
  | m + 1, _ :: _, [], _, h2, _, _, _ => by simp at h2
  | m + 1, x :: P, y :: S, h1, h2, hP, hS, h => by
    simp only [val] at h
    have a1 := val_lt m P (fun z hz => (hP z (List.mem_cons_of_mem _ hz)).2)
    have a2 := val_lt m S (fun z hz => (hS z (List.mem_cons_of_mem _ hz)).2)
    have hx := hP x List.mem_cons_self
    have hy := hS y List.mem_cons_self
    rcases Int.lt_trichotomy x y with e | e | e
    · exact ⟨0, fun j hj => by omega, by simpa using e⟩
    · subst e
      obtain ⟨k, k1, k2⟩ := val_lx m P S (by simpa using h1) (by simpa using h2) (fun z hz => hP z (List.mem_cons_of_mem _ hz)) (fun z hz => hS z (List.mem_cons_of_mem _ hz)) (by omega)
      refine ⟨k + 1, fun j hj => ?_, by simpa using k2⟩
      cases j with
      | zero => rfl
      | succ j => simpa using k1 j (by omega)
    · have : (y.toNat + 1) * 257 ^ m ≤ x.toNat * 257 ^ m := Nat.mul_le_mul_right _ (by omega)
      rw [Nat.add_mul] at this
      omega

theorem open_sorted (g : List Int) : (openL g).Pairwise (· < ·) := by
  unfold openL openTo
  refine List.Pairwise.map _ (fun a b h => ?_) (List.Pairwise.filter _ List.pairwise_lt_range)
  omega

theorem open_lt {C : Cst} {i j : Nat} (hi : i < j) (hj : j < C.O.length) : (C.O[i]'(by omega)).toNat < (C.O[j]).toNat := by
  have h1 := List.pairwise_iff_getElem.1 (open_sorted C.g) i j (by show i < C.O.length; omega) hj hi
  have h2 := mem_open.1 (show C.O[i]'(by omega) ∈ openL C.g from List.getElem_mem (by show i < C.O.length; omega))
  have h3 := mem_open.1 (show C.O[j] ∈ openL C.g from List.getElem_mem hj)
  show (C.O[i]'(by omega)).toNat < _
  have : C.O[i]'(by omega) < C.O[j] := h1
  omega

/-- What a path says of a cell that it does not reach. -/
theorem fillP_same {C : Cst} {P : List Int} {j : Nat} (h : ∀ (i : Nat) (hi : i < C.O.length), i < P.length → (C.O[i]).toNat ≠ j) : (fillP C P)[j]? = C.g[j]? := by
  unfold fillP
  refine foldl_set_other _ _ (fun x hx e => ?_) _
  have h1 := zip_fst_take hx
  obtain ⟨i, hi, e2⟩ := List.getElem_of_mem h1
  rw [List.length_take] at hi
  rw [List.getElem_take] at e2
  exact h i (by omega) (by omega) (by rw [e2]; exact e)

theorem fillP_at {C : Cst} (S : List Int) : ∀ (m : Nat) (_ : m ≤ S.length) (hm2 : m ≤ C.O.length) (k : Nat) (hk : k < m), (fillP C (S.take m))[(C.O[k]'(by omega)).toNat]? = some (S[k]?.getD 0)
  | 0, _, _, k, hk => by omega
  | m + 1, h1, h2, k, hk => by
    have hl : (S.take m).length = m := by rw [List.length_take]; omega
    rw [take_snoc S 0 m (by omega), fillP_snoc _ _ _ (by rw [hl]; omega)]
    have hm := mem_open.1 (show C.O[m]'(by omega) ∈ openL C.g from List.getElem_mem (by show m < C.O.length; omega))
    rcases Nat.lt_or_ge k m with h3 | h3
    · have hne := open_lt (C := C) h3 (by omega)
      rw [List.getElem?_set_ne]
      · exact fillP_at S m (by omega) (by omega) k h3
      · simp only [hl]; omega
    · have : k = m := by omega
      subst this
      simp only [hl]
      rw [List.getElem?_set_self]
      rw [fillP_len]
      omega

theorem fillP_full {C : Cst} {S : List Int} (h : S.length = C.O.length) (k : Nat) (hk : k < C.O.length) : (fillP C S)[(C.O[k]).toNat]? = some (S[k]?.getD 0) := by
  have := fillP_at (C := C) S S.length (Nat.le_refl _) (by omega) k (by omega)
  rwa [List.take_length] at this

theorem lx_fill {C : Cst} {P S : List Int} (hP : P.length = C.O.length) (hS : S.length = C.O.length) (h : Lx P S) : Lx (fillP C P) (fillP C S) := by
  obtain ⟨k, h1, h2⟩ := h
  have hk : k < C.O.length := by
    refine Nat.lt_of_not_le fun hle => ?_
    rw [List.getElem?_eq_none (by omega), List.getElem?_eq_none (by omega)] at h2
    exact absurd h2 (by simp)
  refine ⟨(C.O[k]).toNat, fun j hj => ?_, ?_⟩
  · by_cases e : ∃ (i : Nat) (hi : i < C.O.length), (C.O[i]).toNat = j
    · obtain ⟨i, hi, rfl⟩ := e
      have hik : i < k := by
        refine Nat.lt_of_not_le fun hle => ?_
        rcases Nat.lt_or_ge k i with h3 | h3
        · have := open_lt (C := C) h3 hi; omega
        · have : i = k := by omega
          subst this; omega
      rw [fillP_full hP i hi, fillP_full hS i hi, Option.getD_some, Option.getD_some]
      exact h1 i hik
    · rw [fillP_same (fun i hi _ e2 => e ⟨i, hi, e2⟩), fillP_same (fun i hi _ e2 => e ⟨i, hi, e2⟩)]
  · rw [fillP_full hP k hk, fillP_full hS k hk, Option.getD_some, Option.getD_some]
    exact h2

theorem ok_num {C : Cst} {P : List Int} (hf : Fine C) (ho : OkP C P) : ∀ z, z ∈ P → 0 ≤ z ∧ z ≤ 256 := fun z hz => by
  have := mem_unused.1 (ho.num z hz)
  have := hf.len
  have := hf.most
  omega

theorem found_sorted {C : Cst} (he : Even C) (hf : Fine C) : ∀ (n : Nat) (P : List Int), fuelP C P = n → OkP C P → Rch C P → (found C P).Pairwise Lx := by
  intro n
  induction n using Nat.strongRecOn with
  | _ n ih =>
    intro P hn ho hr
    rw [found_step he hf ho]
    cases hP : nextP C P with
    | none => exact List.Pairwise.nil
    | some P' =>
      simp only
      have hlt := fuelP_lt he hf ho hP
      have hok := nextP_ok he hf ho hP
      have hr' := rch_next hr hP
      have htail := ih (fuelP C P') (by omega) P' rfl hok hr'
      split
      · rename_i hc
        have hl : P'.length = C.O.length := by simpa using hc.1
        refine List.pairwise_append.2 ⟨List.pairwise_singleton _ _, htail, fun a ha b hb => ?_⟩
        rw [List.mem_singleton.1 ha]
        obtain ⟨S, h1, h2, h3⟩ := found_sound he hf (fuelP C P') P' rfl hok hr' b hb
        rw [h2]
        exact lx_fill hl h1.len (val_lx C.O.length P' S hl h1.len (ok_num hf hok) (ok_num hf h1.ok) h3)
      · exact htail

end Go.Proofs.Ytcblpobiefmjmaa
