/- As many numbers are unused as cells are open. -/
import Derived.Test.YtcblpobiefmjmaaC28
namespace Go.Proofs.Ytcblpobiefmjmaa
open Go Go.RowKit

theorem filter_parts {α : Type} (p : α → Bool) : ∀ l : List α, (l.filter p).length + (l.filter (fun x => !p x)).length = l.length
  | [] => rfl
  | x :: l => by
    have := filter_parts p l
    by_cases h : p x = true
    · simp [h]; omega
    · have h' : p x = false := by simpa using h
      simp [h']; omega

theorem even_of {g : List Int} (hn : ∀ k : Nat, k < g.length → 0 ≤ g[k]?.getD 0 ∧ g[k]?.getD 0 ≤ g.length) (hd : ∀ i j : Nat, i < j → j < g.length → 0 < g[j]?.getD 0 → g[i]?.getD 0 ≠ g[j]?.getD 0) : (unusedL g).length = (openL g).length := by
  have h1 := filter_parts (fun (i : Nat) => g[i]?.getD 0 == 0) (List.range g.length)
  have h2 := filter_parts (fun (i : Nat) => !hasB g ((i : Int) + 1)) (List.range g.length)
  rw [List.length_range] at h1 h2
  have hA : (((List.range g.length).filter (fun (i : Nat) => !(g[i]?.getD 0 == 0))).map (fun i => g[i]?.getD 0)).Nodup := by
    refine List.Pairwise.map _ (fun (i j : Nat) h => h) (R := fun (i j : Nat) => g[i]?.getD 0 ≠ g[j]?.getD 0) ?_
    have hp : (List.range g.length).Pairwise (fun i j => i < j ∧ j < g.length) := by
      rw [List.pairwise_iff_getElem]
      intro i j hi hj hij
      rw [List.length_range] at hi hj
      simp only [List.getElem_range]
      exact ⟨hij, hj⟩
    refine List.Pairwise.imp_of_mem ?_ (hp.filter _)
    intro i j _ hj hij
    have hj2 := (List.mem_filter.1 hj).2
    simp only [Bool.not_eq_true', beq_eq_false_iff_ne, ne_eq] at hj2
    have := (hn j hij.2).1
    exact hd i j hij.1 hij.2 (by omega)
  have hB : (((List.range g.length).filter (fun (i : Nat) => !!hasB g ((i : Int) + 1))).map (fun (i : Nat) => (i : Int) + 1)).Nodup := by
    refine List.Pairwise.map _ (fun (a b : Nat) h => ?_) (List.Pairwise.filter _ List.nodup_range)
    omega
  have hAB := nodup_le hA (m := ((List.range g.length).filter (fun (i : Nat) => !!hasB g ((i : Int) + 1))).map (fun (i : Nat) => (i : Int) + 1)) (by
    intro x hx
    obtain ⟨i, hi, rfl⟩ := List.mem_map.1 hx
    rw [List.mem_filter, List.mem_range] at hi
    have h3 := hn i hi.1
    have h4 := hi.2
    simp only [Bool.not_eq_true', beq_eq_false_iff_ne, ne_eq] at h4
    refine List.mem_map.2 ⟨(g[i]?.getD 0 - 1).toNat, ?_, by omega⟩
    rw [List.mem_filter, List.mem_range]
    refine ⟨by omega, ?_⟩
    rw [Bool.not_not, show (((g[i]?.getD 0 - 1).toNat : Nat) : Int) + 1 = g[i]?.getD 0 from by omega, hasB_iff, List.getElem?_eq_getElem hi.1]
    exact List.getElem_mem hi.1)
  have hBA := nodup_le hB (m := ((List.range g.length).filter (fun (i : Nat) => !(g[i]?.getD 0 == 0))).map (fun i => g[i]?.getD 0)) (by
    intro x hx
    obtain ⟨i, hi, rfl⟩ := List.mem_map.1 hx
    rw [List.mem_filter, List.mem_range, Bool.not_not, hasB_iff] at hi
    obtain ⟨k, hk, hgk⟩ := List.getElem_of_mem hi.2
    refine List.mem_map.2 ⟨k, ?_, by rw [List.getElem?_eq_getElem hk]; exact hgk⟩
    rw [List.mem_filter, List.mem_range]
    refine ⟨hk, ?_⟩
    rw [List.getElem?_eq_getElem hk, Option.getD_some, hgk]
    simp
    omega)
  rw [List.length_map, List.length_map] at hAB hBA
  simp only [unusedL, unusedTo, openL, openTo, List.length_map]
  omega

end Go.Proofs.Ytcblpobiefmjmaa
