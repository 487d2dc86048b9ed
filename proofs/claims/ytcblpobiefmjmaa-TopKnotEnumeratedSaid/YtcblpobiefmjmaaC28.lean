/- Steps keep a path sound; visit at fuel enough. -/
import Derived.Test.YtcblpobiefmjmaaC27
namespace Go.Proofs.Ytcblpobiefmjmaa
open Go Go.RowKit

theorem backP_ok {C : Cst} : ∀ (R : List Int) (P' : List Int), OkP C R.reverse → backP C R = some P' → OkP C P'
  | [], _, _, h => by simp [backP] at h
  | x :: R, P', ho, h => by
    rw [List.reverse_cons] at ho
    have hp := ho.pop
    unfold backP at h
    by_cases hab : 0 < aboveM (maskL (leftL C R.reverse)) x.toNat
    · rw [if_pos hab] at h
      cases h
      have ha := above_left hab
      exact hp.1.push hp.2.2.2 ha.1 ha.2
    · rw [if_neg hab] at h
      exact backP_ok R P' hp.1 h

theorem nextP_ok {C : Cst} {P P' : List Int} (he : Even C) (hf : Fine C) (ho : OkP C P) (h : nextP C P = some P') : OkP C P' := by
  unfold nextP at h
  split at h
  · rename_i hc
    cases h
    have hne : P.length ≠ C.O.length := by
      have := hc.1
      simpa using this
    have hl : P.length < C.O.length := by have := ho.len; omega
    have ha := above_left (above_first he hf hl)
    exact ho.push hl ha.1 ha.2
  · exact backP_ok P.reverse P' (by rw [List.reverse_reverse]; exact ho) h

/-- So many steps are left at most. -/
def fuelP (C : Cst) (P : List Int) : Nat := 257 ^ C.O.length - val C.O.length P

theorem ok_val {C : Cst} {P : List Int} (hf : Fine C) (ho : OkP C P) : val C.O.length P < 257 ^ C.O.length :=
  val_lt _ _ fun z hz => by
    have := mem_unused.1 (ho.num z hz)
    have := hf.len
    have := hf.most
    omega

theorem fuelP_lt {C : Cst} {P P' : List Int} (he : Even C) (hf : Fine C) (ho : OkP C P) (h : nextP C P = some P') : fuelP C P' < fuelP C P := by
  have h1 := nextP_val he hf ho h
  have h2 := ok_val hf (nextP_ok he hf ho h)
  unfold fuelP
  omega

/-- All that is found from a path on. -/
def found (C : Cst) (P : List Int) : List (List Int) := visit C (fuelP C P) P

theorem visit_eq {C : Cst} (he : Even C) (hf : Fine C) : ∀ (f : Nat) (P : List Int), OkP C P → fuelP C P = f → ∀ k j, f ≤ k → f ≤ j → visit C k P = visit C j P := by
  intro f
  induction f using Nat.strongRecOn with
  | _ f ih =>
    intro P ho hfP k j hk hj
    have hpos : 0 < fuelP C P := by
      have := ok_val hf ho
      unfold fuelP
      omega
    cases k with
    | zero => omega
    | succ k =>
      cases j with
      | zero => omega
      | succ j =>
        simp only [visit]
        cases hn : nextP C P with
        | none => rfl
        | some P' =>
          have h1 := fuelP_lt he hf ho hn
          simp only
          rw [ih (fuelP C P') (by omega) P' (nextP_ok he hf ho hn) rfl k j (by omega) (by omega)]

/-- One step of all that is found. -/
theorem found_step {C : Cst} {P : List Int} (he : Even C) (hf : Fine C) (ho : OkP C P) : found C P = match nextP C P with
    | none => []
    | some P' => (if (P'.length == C.O.length) = true ∧ wrongB C P' = false then [fillP C P'] else []) ++ found C P' := by
  have h0 := visit_eq he hf (fuelP C P) P ho rfl (fuelP C P) (fuelP C P + 1) (Nat.le_refl _) (by omega)
  unfold found
  rw [h0]
  simp only [visit]
  cases hn : nextP C P with
  | none => rfl
  | some P' =>
    have h1 := fuelP_lt he hf ho hn
    simp only
    rw [visit_eq he hf (fuelP C P') P' (nextP_ok he hf ho hn) rfl (fuelP C P) (fuelP C P') (by omega) (Nat.le_refl _)]

end Go.Proofs.Ytcblpobiefmjmaa
