/- What a built table means. -/
import Derived.Test.YtcblpobiefmjmaaC21
namespace Go.Proofs.Ytcblpobiefmjmaa
open Go Go.RowKit

theorem filter_range {α : Type} (ls : List α) (d : α) (p : α → Bool) : ls.filter p = ((List.range ls.length).filter (fun i => p (ls[i]?.getD d))).map (fun i => ls[i]?.getD d) := by
  have h : ls = (List.range ls.length).map (fun i => ls[i]?.getD d) := by
    apply List.ext_getElem?
    intro i
    by_cases hi : i < ls.length
    · simp [hi]
    · simp [Nat.le_of_not_lt hi]
  conv => lhs; rw [h]
  rw [List.filter_map]
  rfl

/-- A row of the table reads as the lines that end at its open cell. -/
theorem row_rc {w w0 : World} {a : Option Addr} {n : Nat} {ls : List (List Int)} {O : List Int} {k B : Nat} {ar : Option Addr} {nr cr : Nat} (hl : ls.length = n) (hsmall : n ≤ 17592186044416)
    (hlv : ∀ i, i < n → ∃ a9 n9 c9, lineV w0 a i = .slice a9 n9 c9 ∧ IC w a9 n9 (ls[i]?.getD []) ∧ n9 ≤ c9)
    (hown : w.ownsRow B 25 1 (.slice ar nr cr) (rowsTo O ls (lineV w0 a) n k).length (rowsTo O ls (lineV w0 a) n k)) :
    RC w ar nr (ls.filter (fun l => lastO O l == k)) ∧ nr ≤ cr := by
  have hnr : nr = (rowsTo O ls (lineV w0 a) n k).length ∧ nr ≤ cr := by
    rcases hown.2 with ⟨e, e2⟩ | ⟨_, _, _, e, _, _, e3, _⟩
    · simp only [Value.slice.injEq] at e; omega
    · simp only [Value.slice.injEq] at e; omega
  obtain ⟨hnr, hnc⟩ := hnr
  have hf := filter_range ls [] (fun l => lastO O l == k)
  rw [hl] at hf
  have hrl : (rowsTo O ls (lineV w0 a) n k).length = ((List.range n).filter (fun i => lastO O (ls[i]?.getD []) == k)).length := by simp [rowsTo]
  have hle := List.length_filter_le (fun i => lastO O (ls[i]?.getD []) == k) (List.range n)
  rw [List.length_range] at hle
  refine ⟨⟨⟨by rw [hf, List.length_map, hnr, hrl], by omega⟩, fun i hi => ?_⟩, hnc⟩
  have hi2 : i < (rowsTo O ls (lineV w0 a) n k).length := by omega
  obtain ⟨g, cap, x, hv, hx, hc, _, hg, _⟩ := owns_free (owns_base hown (Nat.zero_le _)) i hi2
  simp only [Value.slice.injEq] at hv
  obtain ⟨rfl, _, _⟩ := hv
  have hi3 : i < ((List.range n).filter (fun i => lastO O (ls[i]?.getD []) == k)).length := by omega
  have hm := List.getElem_mem hi3
  rw [List.mem_filter, List.mem_range] at hm
  obtain ⟨a9, n9, c9, hl9, hic, hn9⟩ := hlv _ hm.1
  have hx2 : x = .slice a9 n9 c9 := by
    rw [rowsTo, List.getElem?_map, List.getElem?_eq_getElem hi3] at hx
    simp only [Option.map_some, Option.some.injEq] at hx
    rw [← hx, hl9]
  refine ⟨g, 0, a9, n9, c9, rfl, hg, by rw [Nat.zero_add, hc, hx2], ?_, hn9⟩
  rw [hf, List.getElem?_map, List.getElem?_eq_getElem hi3]
  exact hic

end Go.Proofs.Ytcblpobiefmjmaa
