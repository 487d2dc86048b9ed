/- Plain facts: lists in an order are told by their members. -/
import Derived.Below
namespace Go.Proofs.Ytcblpobiefmjmaa

theorem sorted_ext {α : Type} {r : α → α → Prop} (hi : ∀ a, ¬ r a a) (ht : ∀ a b, r a b → ¬ r b a) : ∀ (l m : List α), l.Pairwise r → m.Pairwise r → (∀ x, x ∈ l ↔ x ∈ m) → l = m
  | [], [], _, _, _ => rfl
  | [], b :: m, _, _, h => absurd ((h b).2 List.mem_cons_self) (by simp)
  | a :: l, [], _, _, h => absurd ((h a).1 List.mem_cons_self) (by simp)
  | a :: l, b :: m, hl, hm, h => by
    have hl1 := List.pairwise_cons.1 hl
    have hm1 := List.pairwise_cons.1 hm
    have hab : a = b := by
      rcases List.mem_cons.1 ((h a).1 List.mem_cons_self) with e | e
      · exact e
      · rcases List.mem_cons.1 ((h b).2 List.mem_cons_self) with e2 | e2
        · exact e2.symm
        · exact absurd (hm1.1 a e) (ht _ _ (hl1.1 b e2))
    subst hab
    have : l = m := sorted_ext hi ht l m hl1.2 hm1.2 fun x => by
      constructor
      · intro hx
        rcases List.mem_cons.1 ((h x).1 (List.mem_cons_of_mem _ hx)) with e | e
        · subst e; exact absurd (hl1.1 x hx) (hi x)
        · exact e
      · intro hx
        rcases List.mem_cons.1 ((h x).2 (List.mem_cons_of_mem _ hx)) with e | e
        · subst e; exact absurd (hm1.1 x hx) (hi x)
        · exact e
    rw [this]

/-- The first list is before the second one: at the first place where they differ it is less. -/
def Lx (f g : List Int) : Prop := ∃ k : Nat, (∀ j : Nat, j < k → f[j]?.getD 0 = g[j]?.getD 0) ∧ f[k]?.getD 0 < g[k]?.getD 0

theorem Lx.irr (f : List Int) : ¬ Lx f f := fun ⟨_, _, h⟩ => by omega
theorem Lx.asymm (f g : List Int) (h : Lx f g) : ¬ Lx g f := by
  obtain ⟨k, h1, h2⟩ := h
  rintro ⟨j, h3, h4⟩
  rcases Nat.lt_trichotomy j k with e | e | e
  · have := h1 j e; omega
  · subst e; omega
  · have := h3 k e; omega
theorem Lx.trans {f g h : List Int} (h1 : Lx f g) (h2 : Lx g h) : Lx f h := by
  obtain ⟨k, a1, a2⟩ := h1
  obtain ⟨j, b1, b2⟩ := h2
  rcases Nat.lt_trichotomy j k with e | e | e
  · exact ⟨j, fun i hi => (a1 i (by omega)).trans (b1 i hi), by rw [a1 j e]; exact b2⟩
  · subst e
    exact ⟨j, fun i hi => (a1 i hi).trans (b1 i hi), by omega⟩
  · exact ⟨k, fun i hi => (a1 i hi).trans (b1 i (by omega)), by rw [← b1 k e]; exact a2⟩

end Go.Proofs.Ytcblpobiefmjmaa
