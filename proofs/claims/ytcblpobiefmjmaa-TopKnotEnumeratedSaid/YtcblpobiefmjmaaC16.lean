/- Plain facts of a search's path, filling and numbers left; a store into a row of one's own. -/
import Derived.Test.YtcblpobiefmjmaaC15
namespace Go.Proofs.Ytcblpobiefmjmaa
open Go Go.RowKit
attribute [local go_sem] over_cell

theorem owns_set {w : World} {base : Nat} {e : TypeId} {g n cap : Nat} {xs : List Value} (h : w.ownsRow base e 1 (.slice (some ⟨g, 0, none⟩) n cap) n xs) (i : Nat) (v : Value) :
    (w.setCell ⟨g, i, none⟩ v).ownsRow base e 1 (.slice (some ⟨g, 0, none⟩) n cap) n (xs.set i v) := by
  obtain ⟨h1, h2⟩ := h
  refine ⟨by rw [List.length_set]; exact h1, .inr ?_⟩
  rcases h2 with ⟨h2, _⟩ | ⟨g', cap', cur, hv, hb, hh, hn, hm, hs, ht⟩
  · cases h2
  · simp only [Value.slice.injEq, Option.some.injEq, Addr.mk.injEq, true_and, and_true] at hv
    obtain ⟨rfl, rfl⟩ := hv
    have hlt := lt_of_block hh
    have h' : w.heap[g] = .cells cur e (0, 0) := by simpa [Array.getElem?_eq_getElem hlt] using hh
    refine ⟨g, cap, cur.setIfInBounds i v, rfl, hb, ?_, hn, hm, by simpa using hs, ?_⟩
    · show (w.heap.modify g _)[g]? = _
      rw [Array.getElem?_eq_getElem (by simpa using hlt), Array.getElem_modify_self, h']
      rfl
    · rw [← ht, Array.toList_setIfInBounds, List.take_set]

theorem owns_free {w : World} {base : Nat} {e : TypeId} {v : Value} {n : Nat} {xs : List Value} (h : w.ownsRow base e 1 v n xs) (i : Nat) (hi : i < n) : ∃ g cap x, v = .slice (some ⟨g, 0, none⟩) n cap ∧ xs[i]? = some x ∧ w.cell? ⟨g, i, none⟩ = some x ∧ w.frozen? ⟨g, i, none⟩ = false ∧ g < w.heap.size ∧ n ≤ cap := by
  obtain ⟨h1, h2⟩ := h
  rcases h2 with ⟨_, h3⟩ | ⟨g, cap, cur, hv, hb, hh, hn, hm, hs, ht⟩
  · omega
  · obtain ⟨x, hx⟩ : ∃ x, xs[i]? = some x := ⟨xs[i]'(by omega), List.getElem?_eq_getElem (by omega)⟩
    refine ⟨g, cap, x, hv, hx, ?_, by simp [World.frozen?, hh], lt_of_block hh, hn⟩
    rw [cell_of_row w g i cur e (0, 0) hh]
    rw [← ht, List.getElem?_take, if_pos (by omega)] at hx
    simpa using hx

theorem owns_front {w : World} {base : Nat} {e : TypeId} {a : Option Addr} {n cap : Nat} {xs : List Value} (h : w.ownsRow base e 1 (.slice a n cap) n xs) (k : Nat) (hk : k ≤ n) : w.ownsRow base e 1 (.slice a k cap) k (xs.take k) := by
  obtain ⟨h1, h2⟩ := h
  refine ⟨by rw [List.length_take]; omega, ?_⟩
  rcases h2 with ⟨h2, h3⟩ | ⟨g, cap', cur, hv, hb, hh, hn, hm, hs, ht⟩
  · simp only [Value.slice.injEq] at h2
    obtain ⟨rfl, rfl, rfl⟩ := h2
    have : k = 0 := by omega
    subst this
    exact .inl ⟨rfl, rfl⟩
  · simp only [Value.slice.injEq] at hv
    obtain ⟨rfl, _, rfl⟩ := hv
    exact .inr ⟨g, cap, cur, rfl, hb, hh, by omega, hm, hs, by rw [← ht, List.take_take]; congr 1; omega⟩

theorem mem_open {g : List Int} {x : Int} : x ∈ openL g ↔ 0 ≤ x ∧ x < g.length ∧ g[x.toNat]?.getD 0 = 0 := by
  simp only [openL, openTo, List.mem_map, List.mem_filter, List.mem_range, beq_iff_eq]
  constructor
  · rintro ⟨i, ⟨h1, h2⟩, rfl⟩
    exact ⟨by omega, by omega, h2⟩
  · rintro ⟨h1, h2, h3⟩
    exact ⟨x.toNat, ⟨by omega, h3⟩, by omega⟩

theorem open_nodup (g : List Int) : (openL g).Nodup := by
  unfold openL openTo
  refine List.Pairwise.map _ (fun a b h => ?_) (List.Pairwise.filter _ List.nodup_range)
  omega

theorem unused_nodup (g : List Int) : (unusedL g).Nodup := by
  unfold unusedL unusedTo
  refine List.Pairwise.map _ (fun a b h => ?_) (List.Pairwise.filter _ List.nodup_range)
  omega

theorem zip_snoc {α β : Type} : ∀ (O : List α) (P : List β) (x : β) (h : P.length < O.length), O.zip (P ++ [x]) = O.zip P ++ [(O[P.length], x)]
  | [], _, _, h => absurd h (by simp)
  | o :: O, [], x, _ => by simp
  | o :: O, p :: P, x, h => by
    have := zip_snoc O P x (by simpa using h)
    simp [this]

theorem fillP_snoc (C : Cst) (P : List Int) (x : Int) (h : P.length < C.O.length) : fillP C (P ++ [x]) = (fillP C P).set (C.O[P.length]).toNat x := by
  unfold fillP
  rw [zip_snoc _ _ _ h, List.foldl_append]
  rfl

theorem foldl_set_other (l : List (Int × Int)) (i : Nat) (hl : ∀ x, x ∈ l → x.1.toNat ≠ i) : ∀ g : List Int, (l.foldl (fun f cx => f.set cx.1.toNat cx.2) g)[i]? = g[i]? := by
  induction l with
  | nil => intro g; rfl
  | cons x l ih =>
    intro g
    rw [List.foldl_cons, ih (fun y hy => hl y (List.mem_cons_of_mem _ hy)), List.getElem?_set_ne (hl x List.mem_cons_self)]

theorem zip_fst_take {α β : Type} {x : α × β} : ∀ {O : List α} {P : List β}, x ∈ O.zip P → x.1 ∈ O.take P.length
  | [], _, h => by simp at h
  | _ :: _, [], h => by simp at h
  | o :: O, p :: P, h => by
    rw [List.zip_cons_cons, List.mem_cons] at h
    rw [List.length_cons, List.take_succ_cons, List.mem_cons]
    rcases h with h | h
    · exact .inl (by rw [h])
    · exact .inr (zip_fst_take h)

/-- The next open cell is still open. -/
theorem fillP_next (C : Cst) (P : List Int) (h : P.length < C.O.length) : (fillP C P)[(C.O[P.length]).toNat]? = some 0 := by
  have hm := mem_open.1 (show C.O[P.length] ∈ openL C.g from List.getElem_mem h)
  unfold fillP
  rw [foldl_set_other]
  · rw [List.getElem?_eq_getElem (by omega)] at hm ⊢
    rw [show C.g[(C.O[P.length]).toNat] = 0 from hm.2.2]
  · intro x hx e
    have h1 := zip_fst_take hx
    obtain ⟨j, hj, e2⟩ := List.getElem_of_mem h1
    have hj1 : j < P.length := by rw [List.length_take] at hj; omega
    have hj2 : j < C.O.length := by omega
    rw [List.getElem_take] at e2
    have hm2 := mem_open.1 (show C.O[j] ∈ openL C.g from List.getElem_mem hj2)
    have hm3 := mem_open.1 (show C.O[P.length] ∈ openL C.g from List.getElem_mem h)
    have e3 : C.O[j] = C.O[P.length] := by
      rw [← e2] at e
      omega
    exact List.pairwise_iff_getElem.1 (open_nodup C.g) j P.length hj2 h hj1 e3

theorem fillP_back (C : Cst) (P : List Int) (x : Int) (h : P.length < C.O.length) : (fillP C (P ++ [x])).set (C.O[P.length]).toNat 0 = fillP C P := by
  rw [fillP_snoc _ _ _ h, List.set_set]
  have := fillP_next C P h
  rw [List.getElem?_eq_some_iff] at this
  obtain ⟨h1, h2⟩ := this
  conv => lhs; rw [← h2]
  exact List.set_getElem_self h1

theorem hasB_iff {xs : List Int} {x : Int} : hasB xs x = true ↔ x ∈ xs := by simp [hasB]

theorem hasB_left (C : Cst) (P : List Int) (y : Int) : hasB (leftL C P) y = (hasB (unusedL C.g) y && !hasB P y) := by
  rw [Bool.eq_iff_iff, hasB_iff, Bool.and_eq_true, hasB_iff]
  simp [leftL, List.mem_filter]

theorem hasB_snoc (P : List Int) (x y : Int) : hasB (P ++ [x]) y = (hasB P y || decide (y = x)) := by
  rw [Bool.eq_iff_iff, Bool.or_eq_true, hasB_iff, hasB_iff]
  simp

theorem left_push (C : Cst) (P : List Int) (x : Int) (h1 : 1 ≤ x) : maskL (leftL C (P ++ [x])) = clearBit (maskL (leftL C P)) (x.toNat - 1) := by
  apply Nat.eq_of_testBit_eq
  intro i
  rw [testBit_clear, testBit_maskL, testBit_maskL, hasB_left, hasB_left, hasB_snoc, Bool.not_or, ← Bool.and_assoc]
  congr 1
  rw [Bool.eq_iff_iff]; simp; omega

theorem left_pop (C : Cst) (P : List Int) (x : Int) (h1 : x ∈ unusedL C.g) (h2 : x ∉ P) : maskL (leftL C P) = maskL (leftL C (P ++ [x])) ||| 2 ^ (x.toNat - 1) := by
  have h3 := mem_unused.1 h1
  apply Nat.eq_of_testBit_eq
  intro i
  rw [Nat.testBit_or, Nat.testBit_two_pow, testBit_maskL, testBit_maskL, hasB_left, hasB_left, hasB_snoc]
  by_cases e : (i : Int) + 1 = x
  · subst e
    have a1 : hasB (unusedL C.g) ((i : Int) + 1) = true := hasB_iff.2 h1
    have a2 : hasB P ((i : Int) + 1) = false := by
      rw [Bool.eq_false_iff]; intro h; exact h2 (hasB_iff.1 h)
    rw [a1, a2]; simp
  · have e2 : ¬ x.toNat - 1 = i := by omega
    simp [e, e2]

theorem OkP.push {C : Cst} {P : List Int} {x : Int} (h : OkP C P) (hl : P.length < C.O.length) (hx : x ∈ unusedL C.g) (hn : x ∉ P) : OkP C (P ++ [x]) :=
  ⟨by rw [List.length_append]; exact hl, fun y hy => by
    rcases List.mem_append.1 hy with h1 | h1
    · exact h.num y h1
    · simp at h1; subst h1; exact hx, by
    rw [List.nodup_append]
    exact ⟨h.nodup, by simp, fun a ha b hb e => by simp at hb; subst hb; subst e; exact hn ha⟩⟩

theorem OkP.pop {C : Cst} {P : List Int} {x : Int} (h : OkP C (P ++ [x])) : OkP C P ∧ x ∈ unusedL C.g ∧ x ∉ P ∧ P.length < C.O.length := by
  have hn := List.nodup_append.1 h.nodup
  have hl := h.len
  simp at hl
  exact ⟨⟨by omega, fun y hy => h.num y (List.mem_append_left _ hy), hn.1⟩, h.num x (by simp), fun hx => hn.2.2 x hx x (by simp) rfl, hl⟩

theorem PutW.stays {w w' : World} {b off M M' : Nat} (hp : PutW w w' b off M M') : Stays (fun k => k = b) w w' := by
  obtain ⟨q, hq, rfl, ho⟩ := hp
  exact (Stays.setCell (S := fun k => k = b) w (p := ⟨b, off + q, none⟩) rfl _).drew

theorem PutW.cell {w w' : World} {b off M M' : Nat} (hp : PutW w w' b off M M') (i : Nat) (hi : i < off ∨ off + 4 ≤ i) : w'.cell? ⟨b, i, none⟩ = w.cell? ⟨b, i, none⟩ := by
  obtain ⟨q, hq, rfl, ho⟩ := hp
  exact World.cell?_setCell_other _ _ _ _ (fun e => by simp only [Addr.mk.injEq, true_and, and_true] at e; omega)

end Go.Proofs.Ytcblpobiefmjmaa
