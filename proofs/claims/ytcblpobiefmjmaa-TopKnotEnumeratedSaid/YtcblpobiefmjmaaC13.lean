/- Contracts: a task that is small; a copy of a list. -/
import Derived.Test.YtcblpobiefmjmaaC12
import Derived.Lib.SliceRun
namespace Go.Proofs.Ytcblpobiefmjmaa
open Go Go.RowKit
attribute [local go_sem] over_cell

def smallErr (cells : Int) (ls : List (List Int)) (sum : Int) (g : List Int) : Int :=
  if (taskErr cells ls sum g != 0) = true then taskErr cells ls sum g else whenV (decide (((openL g).length : Int) > 16)) 20

theorem box4 {w w1 : World} {x0 x1 x2 x3 : Value} {T : TypeId} (hb : Below (w.alloc (.cells #[x0, x1, x2, x3] T)).heap.size (w.alloc (.cells #[x0, x1, x2, x3] T)) w1) :
    (w1.cell? ⟨w.heap.size, 0, none⟩ = some x0 ∧ w1.cell? ⟨w.heap.size, 1, none⟩ = some x1 ∧ w1.cell? ⟨w.heap.size, 2, none⟩ = some x2 ∧ w1.cell? ⟨w.heap.size, 3, none⟩ = some x3) ∧ Below w.heap.size w w1 ∧ w.heap.size < w1.heap.size := by
  have hlt : w.heap.size < (w.alloc (.cells #[x0, x1, x2, x3] T)).heap.size := by simp
  have hc := fun i => ((bcell hb).1 w.heap.size i hlt).trans (box_cells w #[x0, x1, x2, x3] T i)
  exact ⟨⟨hc 0, hc 1, hc 2, hc 3⟩, ((Below.refl _ _).alloc (Nat.le_refl _) _).trans (hb.mono (by omega)), Nat.lt_of_lt_of_le hlt hb.size⟩

theorem owns_shape {w : World} {base : Nat} {e : TypeId} {v : Value} {n : Nat} {xs : List Value} (h : w.ownsRow base e 1 v n xs) : ∃ a c, v = .slice a n c := by
  rcases h.2 with ⟨h2, h3⟩ | ⟨g, cap, cur, hv, _⟩
  · exact ⟨none, 0, by rw [h2, h3]⟩
  · exact ⟨_, _, hv⟩

set_option maxRecDepth 100000 in
set_option maxHeartbeats 1000000 in
theorem small_c (a : Option Addr) (n c : Nat) (ls : List (List Int)) (cells sum : Int) (a' : Option Addr) (n' c' : Nat) (g : List Int) (w : World) (h : RC w a n ls) (hcap : n ≤ c) (h' : IC w a' n' g) (hcap' : n' ≤ c') :
    Calls Try.prog 14 #[.agg #[.int .i64 cells, .slice a n c, .int .i64 sum, .slice a' n' c']] w fun e w' => e = .returned (.int .i64 (smallErr cells ls sum g)) ∧ Below w.heap.size w w' := by
  have hm := h.small
  have hm' := h'.small
  go_enter Try.func14, Try.ntmps14
  have hB : Below w.heap.size w (w.alloc (.cells #[.int .i64 cells, .slice a n c, .int .i64 sum, .slice a' n' c'] 27)) := (Below.refl _ _).alloc (Nat.le_refl _) _
  have HT := Go.Lib.hid (task_c a n c ls cells sum a' n' c' g _ (h.mono hB) hcap (h'.mono hB) hcap')
  go_wp2_with (first | (go_at_call 17; refine HT.out.mono ?_; rintro _ w1 ⟨rfl, hb0⟩; obtain ⟨⟨x0, x1, x2, x3⟩, hb1, hs1⟩ := box4 hb0; clear hb0) | (go_at_call 26; refine (open_c (.slice a n c) cells sum a' n' c' g w1 (h'.mono hb1)).mono ?_; rintro _ w2 ⟨v, rfl, hown, hb2⟩; obtain ⟨a2, c2, rfl⟩ := owns_shape hown) | (go_at_call 18; refine (when_c _ _ _).mono ?_; rintro e w3 ⟨rfl, rfl⟩))
  · have he : (taskErr cells ls sum g != 0) = true := by assumption
    go_ret
    exact ⟨ret_int (by rw [smallErr, if_pos he]), hb1⟩
  · have he : ¬ (taskErr cells ls sum g != 0) = true := by simp_all
    go_ret
    exact ⟨ret_int (by rw [smallErr, if_neg he]), hb1.trans (hb2.mono (by omega))⟩

theorem run_nilI (w : World) (a : Option Addr) (n c : Nat) : (binOp .eql 25 (.slice a n c) (.slice none 0 0)).run Try.prog w = .ok (.bool a.isNone) w :=
  Go.Lib.run_eql_slice_nil w _ _ a n c 0 0 Try.underlying25
attribute [local go_sem] run_nilI

theorem IC.cells {w : World} {p : Addr} {n : Nat} {g : List Int} (h : IC w (some p) n g) (j : Nat) (u : Value) (hj : (g.map (Value.int .i64))[j]? = some u) : w.cell? (p.add j) = some u := by
  rw [List.getElem?_map, Option.map_eq_some_iff] at hj
  obtain ⟨x, hx, rfl⟩ := hj
  have hl := h.len
  have hlt : j < g.length := (List.getElem?_eq_some_iff.1 hx).1
  obtain ⟨b, off, e, _, hc⟩ := h.2 j (by omega)
  obtain rfl : p = ⟨b, off, none⟩ := by simpa using e
  have e2 : (⟨b, off, none⟩ : Addr).add j = ⟨b, off + j, none⟩ := by
    cases j <;> simp [Addr.add]
  rw [e2, hc, hx]; rfl

set_option maxRecDepth 100000 in
set_option maxHeartbeats 1000000 in
theorem clone_c (a : Option Addr) (n c : Nat) (g : List Int) (w : World) (h : IC w a n g) :
    Calls Try.prog 22 #[.slice a n c] w fun e w' => ∃ v, e = .returned v ∧ w'.ownsRow w.heap.size 3 1 v g.length (g.map (Value.int .i64)) ∧ Below w.heap.size w w' := by
  have hm := h.small
  have hl := h.len
  obtain ⟨i0, hi, hz0, hz1, hz2⟩ := info_parts infoInt
  cases a with
  | none =>
    have hn : n = 0 := by
      rcases Nat.eq_zero_or_pos n with h0 | h0
      · exact h0
      · obtain ⟨_, _, e, _⟩ := h.2 0 h0
        cases e
    subst hn
    have hg : g = [] := List.length_eq_zero_iff.1 hl
    subst hg
    go_enter Try.func22, Try.ntmps22
    go_wp2
    go_ret
    exact ⟨_, rfl, World.ownsRow_nil _ _ _ _, Below.refl _ _⟩
  | some p =>
    go_enter Try.func22, Try.ntmps22
    go_wp2_with (at_builtin; refine wpList_append_own _ rfl _ _ 25 rfl w.heap.size 3 i0 (.int .i64 0) 1 8 Try.underlying25 hi hz0 hz1 hz2 rfl (by decide) _ 0 [] rfl (World.ownsRow_made w #[] 0 (Nat.le_refl _) (by decide) rfl) p n c (g.map (Value.int .i64)) rfl (by simp [hl]) ?_ ?_ (by unfold maxLen; omega) (by omega) (by simp) ?_)
    · intro j u hj
      exact (h.mono ((Below.refl _ _).alloc (Nat.le_refl _) _)).cells j u hj
    · intro u hu
      obtain ⟨x, _, rfl⟩ := List.mem_map.1 hu
      rfl
    · intro v' w1 hown hgrow _
      have hb1 : Below w.heap.size w w1 := ((Below.refl w.heap.size w).alloc (Nat.le_refl _) _).grown hgrow (by simp) (fun j e => by simp [Value.ownBlock] at e; omega)
      clear hgrow
      go_wp2
      go_ret
      exact ⟨_, rfl, by rw [hl]; exact hown, hb1⟩

end Go.Proofs.Ytcblpobiefmjmaa
