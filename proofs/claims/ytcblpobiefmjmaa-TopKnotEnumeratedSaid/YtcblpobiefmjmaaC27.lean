/- The walk of a search as a list: visit; the rank of a path, which each step raises. -/
import Derived.Test.YtcblpobiefmjmaaC26
namespace Go.Proofs.Ytcblpobiefmjmaa
open Go Go.RowKit

/-- What is found from a path on, in so many steps at most. -/
def visit (C : Cst) : Nat → List Int → List (List Int)
  | 0, _ => []
  | k + 1, P => match nextP C P with
    | none => []
    | some P' => (if (P'.length == C.O.length) = true ∧ wrongB C P' = false then [fillP C P'] else []) ++ visit C k P'

/-- A path of at most m numbers, padded with zeros, as one number. -/
def val : Nat → List Int → Nat
  | 0, _ => 0
  | _ + 1, [] => 0
  | m + 1, x :: P => x.toNat * 257 ^ m + val m P

theorem val_lt : ∀ (m : Nat) (P : List Int), (∀ x, x ∈ P → x ≤ 256) → val m P < 257 ^ m
  | 0, _, _ => by simp [val]
  | m + 1, [], _ => by simp only [val]; exact Nat.pow_pos (by decide)
  | m + 1, x :: P, h => by
    have h1 := val_lt m P (fun y hy => h y (List.mem_cons_of_mem _ hy))
    have h2 := h x List.mem_cons_self
    have h3 : x.toNat ≤ 256 := by omega
    have h4 : x.toNat * 257 ^ m ≤ 256 * 257 ^ m := Nat.mul_le_mul_right _ h3
    simp only [val]
    rw [Nat.pow_succ]
    omega

theorem val_snoc : ∀ (m : Nat) (P : List Int) (x : Int), P.length < m → 1 ≤ x → val m P < val m (P ++ [x])
  | 0, _, _, h, _ => absurd h (Nat.not_lt_zero _)
  | m + 1, [], x, _, hx => by
    have h3 : 1 ≤ x.toNat := by omega
    have h4 : 1 * 257 ^ m ≤ x.toNat * 257 ^ m := Nat.mul_le_mul_right _ h3
    have h5 : 0 < 257 ^ m := Nat.pow_pos (by decide)
    simp only [List.nil_append, val]
    omega
  | m + 1, y :: P, x, h, hx => by
    have := val_snoc m P x (by simpa using h) hx
    simp only [List.cons_append, val]
    omega

theorem val_raise : ∀ (m : Nat) (Q : List Int) (y x : Int) (R : List Int), (Q ++ y :: R).length ≤ m → y.toNat < x.toNat → (∀ z, z ∈ R → z ≤ 256) → val m (Q ++ y :: R) < val m (Q ++ [x])
  | 0, Q, y, x, R, h, _, _ => by simp at h
  | m + 1, [], y, x, R, h, hx, hR => by
    have h1 := val_lt m R hR
    have h4 : (y.toNat + 1) * 257 ^ m ≤ x.toNat * 257 ^ m := Nat.mul_le_mul_right _ hx
    rw [Nat.add_mul] at h4
    simp only [List.nil_append, val]
    omega
  | m + 1, q :: Q, y, x, R, h, hx, hR => by
    have := val_raise m Q y x R (by simpa using h) hx hR
    simp only [List.cons_append, val]
    omega

theorem backP_val {C : Cst} (m : Nat) : ∀ (R T : List Int) (P' : List Int), (R.reverse ++ T).length ≤ m → (∀ z, z ∈ R.reverse ++ T → z ≤ 256) → backP C R = some P' → val m (R.reverse ++ T) < val m P'
  | [], _, _, _, _, h => by simp [backP] at h
  | x :: R, T, P', hl, hz, h => by
    rw [List.reverse_cons, List.append_assoc, List.singleton_append] at hl hz ⊢
    unfold backP at h
    by_cases hab : 0 < aboveM (maskL (leftL C R.reverse)) x.toNat
    · rw [if_pos hab] at h
      cases h
      refine val_raise m _ _ _ _ hl ?_ (fun z hz2 => hz z (List.mem_append_right _ (List.mem_cons_of_mem _ hz2)))
      rw [Int.toNat_natCast]
      exact (aboveM_spec hab).1
    · rw [if_neg hab] at h
      exact backP_val m R (x :: T) P' hl hz h

/-- Each step raises the rank. -/
theorem nextP_val {C : Cst} {P P' : List Int} (he : Even C) (hf : Fine C) (ho : OkP C P) (h : nextP C P = some P') : val C.O.length P < val C.O.length P' := by
  have hz : ∀ z, z ∈ P → z ≤ 256 := fun z hz => by
    have := mem_unused.1 (ho.num z hz)
    have := hf.len
    have := hf.most
    omega
  unfold nextP at h
  split at h
  · rename_i hc
    cases h
    have hne : P.length ≠ C.O.length := by
      have := hc.1
      simpa using this
    have hl : P.length < C.O.length := by have := ho.len; omega
    have ha := above_first he hf hl
    exact val_snoc _ _ _ hl (by omega)
  · have := backP_val (C := C) C.O.length P.reverse [] P' (by simpa using ho.len) (by simpa using hz) h
    simpa using this

end Go.Proofs.Ytcblpobiefmjmaa
