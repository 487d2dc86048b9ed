/- The table of lines of a search, while it is built. -/
import Derived.Test.YtcblpobiefmjmaaC20
namespace Go.Proofs.Ytcblpobiefmjmaa
open Go Go.RowKit

theorem owns_up {w : World} {B : Nat} {e : TypeId} {size : Nat} {v : Value} {n : Nat} {xs : List Value} (h : w.ownsRow 0 e size v n xs) (hb : ∀ k, v.ownBlock = some k → B ≤ k) : w.ownsRow B e size v n xs :=
  ⟨h.1, h.2.imp id fun ⟨g, cap, cur, a, _, r⟩ => ⟨g, cap, cur, a, hb g (by rw [a]; rfl), r⟩⟩

/-- The table at al has m rows, each in a block of its own from Bt on. -/
structure TB (w : World) (al m Bt : Nat) (rows : Nat → List Value) (vs : Nat → Value) : Prop where
  lt : al < w.heap.size
  fz : ∀ k, k < m → w.frozen? ⟨al, k, none⟩ = false
  cell : ∀ k, k < m → w.cell? ⟨al, k, none⟩ = some (vs k)
  own : ∀ k, k < m → w.ownsRow Bt 25 1 (vs k) (rows k).length (rows k)
  apart : ∀ j k x, j < m → k < m → j ≠ k → (vs j).ownBlock = some x → (vs k).ownBlock ≠ some x

theorem TB.keep {w w' : World} {al m Bt : Nat} {rows : Nat → List Value} {vs : Nat → Value} (h : TB w al m Bt rows vs) (hb : Below w.heap.size w w') : TB w' al m Bt rows vs :=
  ⟨Nat.lt_of_lt_of_le h.lt hb.size, fun k hk => ((bcell hb).2 _ _ h.lt).trans (h.fz k hk), fun k hk => ((bcell hb).1 _ _ h.lt).trans (h.cell k hk), fun k hk => owns_keep (h.own k hk) (fun _ _ hlt => hb.block _ hlt), h.apart⟩

theorem TB.add {w w2 : World} {al m Bt : Nat} {rows : Nat → List Value} {vs : Nat → Value} (h : TB w al m Bt rows vs) (hal : al < Bt) (hBt : Bt ≤ w.heap.size) {n : Nat} (hn : n < m) {v' l : Value}
    (hs : Stays (fun k => (vs n).ownBlock = some k) w w2) (hown : w2.ownsRow 0 25 1 v' ((rows n).length + 1) (rows n ++ [l])) (hnew : ∀ k, v'.ownBlock = some k → (vs n).ownBlock = some k ∨ w.heap.size ≤ k) :
    TB (w2.setCell ⟨al, n, none⟩ v') al m Bt (fun k => if k = n then rows n ++ [l] else rows k) (fun k => if k = n then v' else vs k) := by
  have hna : ∀ j, j < m → ∀ x, (vs j).ownBlock = some x → Bt ≤ x ∧ x < w.heap.size := fun j hj x e => (h.own j hj).lt x e
  have hala : ¬ (vs n).ownBlock = some al := fun e => by have := (hna n hn al e).1; omega
  have hc : ∀ k, k < m → w2.cell? ⟨al, k, none⟩ = some (vs k) := fun k hk => (hs.cell h.lt hala).trans (h.cell k hk)
  have hv'al : v'.ownBlock ≠ some al := fun e => by
    rcases hnew al e with e2 | e2
    · exact hala e2
    · have := h.lt; omega
  refine ⟨?_, fun k hk => (World.frozen?_setCell _ _ _ _).trans ((hs.frozen h.lt hala).trans (h.fz k hk)), fun k hk => ?_, fun k hk => ?_, fun j k x hj hk hjk e e2 => ?_⟩
  · have : (w2.setCell ⟨al, n, none⟩ v').heap.size = w2.heap.size := by simp [World.setCell]
    have := hs.size
    have := h.lt
    omega
  · by_cases e : k = n
    · subst e
      rw [if_pos rfl]
      exact World.cell?_setCell_same _ _ _ (hc k hk)
    · rw [if_neg e, World.cell?_setCell_other _ _ _ _ (fun e2 => e (by simp only [Addr.mk.injEq, true_and, and_true] at e2; exact e2.symm))]
      exact hc k hk
  · by_cases e : k = n
    · subst e
      simp only [↓reduceIte]
      rw [List.length_append, List.length_singleton]
      refine ownsRow_setCell_other (owns_up hown (fun j e => ?_)) (a := ⟨al, k, none⟩) hv'al _
      rcases hnew j e with e2 | e2
      · exact (hna k hk j e2).1
      · omega
    · simp only [if_neg e]
      refine ownsRow_setCell_other (owns_keep (h.own k hk) (fun x e2 hlt => hs.block x hlt (fun e3 => h.apart n k x hn hk (fun e4 => e e4.symm) e3 e2))) (a := ⟨al, n, none⟩) (fun e2 => ?_) _
      have := (hna k hk al e2).1
      omega
  · by_cases e3 : j = n
    · subst e3
      have e4 : ¬ k = j := fun e => hjk e.symm
      rw [if_pos rfl] at e
      rw [if_neg e4] at e2
      rcases hnew x e with e5 | e5
      · exact h.apart j k x hj hk hjk e5 e2
      · have := (hna k hk x e2).2; omega
    · rw [if_neg e3] at e
      by_cases e4 : k = n
      · subst e4
        rw [if_pos rfl] at e2
        rcases hnew x e2 with e5 | e5
        · exact h.apart j k x hj hk hjk e e5
        · have := (hna j hj x e).2; omega
      · rw [if_neg e4] at e2
        exact h.apart j k x hj hk hjk e e2

theorem RC.sure {w : World} {a : Option Addr} {n : Nat} {ls : List (List Int)} (h : RC w a n ls) : Sure (fun k => k < w.heap.size) w (fun w' => RC w' a n ls) := by
  intro w' hs hb
  refine ⟨h.1, fun k hk => ?_⟩
  obtain ⟨b, off, a', n', c', e, hlt, hc, hi, hn⟩ := h.2 k hk
  refine ⟨b, off, a', n', c', e, Nat.lt_of_lt_of_le hlt hs, (World.cell?_of_block (hb b hlt)).trans hc, ⟨hi.1, fun j hj => ?_⟩, hn⟩
  obtain ⟨b2, off2, e2, hlt2, hc2⟩ := hi.2 j hj
  exact ⟨b2, off2, e2, Nat.lt_of_lt_of_le hlt2 hs, (World.cell?_of_block (hb b2 hlt2)).trans hc2⟩

/-- The world with its first B blocks alone. -/
def cutW (w : World) (B : Nat) : World := { w with heap := w.heap.extract 0 B }

theorem cutW_size {w : World} {B : Nat} (h : B ≤ w.heap.size) : (cutW w B).heap.size = B := by
  simp [cutW]; omega

theorem cutW_below {w : World} {B : Nat} (h : B ≤ w.heap.size) : Below (cutW w B).heap.size (cutW w B) w := by
  refine ⟨rfl, rfl, rfl, by rw [cutW_size h]; exact h, fun k hk => ?_⟩
  rw [cutW_size h] at hk
  simp only [cutW]
  rw [Array.getElem?_extract]
  simp
  omega

theorem cutW_cell {w : World} {B : Nat} (h : B ≤ w.heap.size) {b o : Nat} (hb : b < B) : (cutW w B).cell? ⟨b, o, none⟩ = w.cell? ⟨b, o, none⟩ :=
  ((bcell (cutW_below h)).1 b o (by rw [cutW_size h]; exact hb)).symm

/-- The value of a line's slice. -/
noncomputable def lineV (w : World) (a : Option Addr) (k : Nat) : Value :=
  match a with | some ⟨b, off, _⟩ => (w.cell? ⟨b, off + k, none⟩).getD (.slice none 0 0) | none => .slice none 0 0

def rowsTo (O : List Int) (ls : List (List Int)) (lv : Nat → Value) (j k : Nat) : List Value := ((List.range j).filter (fun i => lastO O (ls[i]?.getD []) == k)).map lv

theorem rowsTo_succ (O : List Int) (ls : List (List Int)) (lv : Nat → Value) (j : Nat) : rowsTo O ls lv (j + 1) = fun k => if k = lastO O (ls[j]?.getD []) then rowsTo O ls lv j (lastO O (ls[j]?.getD [])) ++ [lv j] else rowsTo O ls lv j k := by
  funext k
  simp only [rowsTo, List.range_succ, List.filter_append, List.map_append]
  by_cases e : k = lastO O (ls[j]?.getD [])
  · subst e
    rw [if_pos rfl]
    simp
  · rw [if_neg e]
    have e2 : (lastO O (ls[j]?.getD []) == k) = false := by simp; exact fun h => e h.symm
    simp [e2]

/-- One more than the place of the last open cell of a line, of the first k ones. -/
def lastTo (O : List Int) (l : List Int) (k : Nat) : Nat := (List.range k).foldl (fun m i => if hasB l (O[i]?.getD 0) = true then i + 1 else m) 0
theorem lastTo_succ (O : List Int) (l : List Int) (k : Nat) : lastTo O l (k + 1) = if hasB l (O[k]?.getD 0) = true then k + 1 else lastTo O l k := by
  simp [lastTo, List.range_succ, List.foldl_append]
theorem lastTo_le (O : List Int) (l : List Int) : ∀ k, lastTo O l k ≤ k
  | 0 => Nat.le_refl _
  | k + 1 => by
    rw [lastTo_succ]
    have := lastTo_le O l k
    split <;> omega

end Go.Proofs.Ytcblpobiefmjmaa
