/- Plain functions: the first error of a list of checks; systems; tasks. -/
import Derived.Below
namespace Go.Proofs.Ytcblpobiefmjmaa
open Go Go.RowKit

def hasB (xs : List Int) (x : Int) : Bool := xs.contains x
def sameB (xs ys : List Int) : Bool := decide (xs = ys)
def hasLineB (ls : List (List Int)) (l : List Int) : Bool := ls.contains l

/-- The first of n numbers that is not 0. -/
def errs (f : Nat → Int) (n : Nat) : Int := match (List.range n).find? (fun i => f i != 0) with | some i => f i | none => 0

theorem errs_found {f : Nat → Int} {n k : Nat} (h : ∀ j, j < k → f j = 0) (hk : k < n) (hf : f k ≠ 0) : errs f n = f k := by
  have : (List.range n).find? (fun i => f i != 0) = some k := by
    rw [List.find?_range_eq_some]
    exact ⟨by simpa using hf, by simpa using hk, fun j hj => by simpa using h j hj⟩
  simp [errs, this]

theorem errs_none {f : Nat → Int} {n : Nat} (h : ∀ j, j < n → f j = 0) : errs f n = 0 := by
  have : (List.range n).find? (fun i => f i != 0) = none := by
    rw [List.find?_range_eq_none]
    exact fun j hj => by simpa using h j hj
  simp [errs, this]

theorem errs_zero {f : Nat → Int} {n : Nat} (h : errs f n = 0) : ∀ j, j < n → f j = 0 := by
  intro j hj
  cases hf : (List.range n).find? (fun i => f i != 0) with
  | none =>
    rw [List.find?_range_eq_none] at hf
    simpa using hf j hj
  | some i =>
    simp only [errs, hf] at h
    have := List.find?_some hf
    simp [h] at this

def whenV (h : Bool) (e : Int) : Int := if h then e else 0
def firstL : List Int → Int
  | [] => 0
  | x :: l => if x != 0 then x else firstL l

def lineBad (cells : Int) (l : List Int) (k : Nat) : Int :=
  if l[k]?.getD 0 < 0 ∨ l[k]?.getD 0 ≥ cells then 10 else if 0 < k ∧ l[k]?.getD 0 ≤ l[k - 1]?.getD 0 then 11 else 0
def lineErr (cells : Int) (ls : List (List Int)) (i : Nat) : Int :=
  if (ls[i]?.getD []).length = 0 then 12
  else if errs (lineBad cells (ls[i]?.getD [])) (ls[i]?.getD []).length ≠ 0 then errs (lineBad cells (ls[i]?.getD [])) (ls[i]?.getD []).length
  else if hasLineB (ls.take i) (ls[i]?.getD []) then 9 else 0
def sysErr (cells : Int) (ls : List (List Int)) : Int :=
  if cells < 1 ∨ cells > 256 then 3 else if ls.length > 128 then 5 else errs (lineErr cells ls) ls.length
def givenBad (cells : Int) (g : List Int) (i : Nat) : Int :=
  if g[i]?.getD 0 < 0 ∨ g[i]?.getD 0 > cells then 3 else if 0 < g[i]?.getD 0 ∧ hasB (g.take i) (g[i]?.getD 0) = true then 9 else 0
def taskErr (cells : Int) (ls : List (List Int)) (sum : Int) (g : List Int) : Int :=
  if sysErr cells ls ≠ 0 then sysErr cells ls else if sum < 1 ∨ sum > 999999999 then 3 else if (g.length : Int) ≠ cells then 2 else errs (givenBad cells g) g.length

def shortB (cells lines : Int) (ls : List (List Int)) : Bool := decide ((ls.length : Int) ≤ lines) && ls.all (fun l => decide ((l.length : Int) ≤ cells))
/-- The open cells below k. -/
def openTo (g : List Int) (k : Nat) : List Int := ((List.range k).filter (fun i => g[i]?.getD 0 == 0)).map (fun (i : Nat) => (i : Int))
def openL (g : List Int) : List Int := openTo g g.length
theorem openTo_zero (g : List Int) : openTo g 0 = [] := rfl
theorem openTo_hit {g : List Int} {k : Nat} (h : (g[k]?.getD 0 == 0) = true) : openTo g (k + 1) = openTo g k ++ [(k : Int)] := by
  simp only [openTo, List.range_succ, List.filter_append, List.map_append]
  congr 1
  simp [h]
theorem openTo_miss {g : List Int} {k : Nat} (h : (g[k]?.getD 0 == 0) = false) : openTo g (k + 1) = openTo g k := by
  simp only [openTo, List.range_succ, List.filter_append, List.map_append]
  simp [h]
theorem openTo_len (g : List Int) (k : Nat) : (openTo g k).length ≤ k := by
  simp only [openTo, List.length_map]
  have := List.length_filter_le (fun i => g[i]?.getD 0 == 0) (List.range k)
  simpa using this

end Go.Proofs.Ytcblpobiefmjmaa
