/- Contracts: the open cells, the unused numbers. -/
import Derived.Test.YtcblpobiefmjmaaC3
namespace Go.Proofs.Ytcblpobiefmjmaa
open Go Go.RowKit
attribute [local go_sem] over_cell

theorem infoInt : (Try.prog.info? 3).map (fun i => (i.zero, i.size, i.bytes)) = some (some (.int .i64 0), 1, 8) := by kernel_rfl

theorem owns_base {w : World} {base base' : Nat} {e : TypeId} {size : Nat} {v : Value} {n : Nat} {xs : List Value} (h : w.ownsRow base e size v n xs) (hb : base' ≤ base) : w.ownsRow base' e size v n xs :=
  ⟨h.1, h.2.imp id fun ⟨g, cap, cur, a, b, r⟩ => ⟨g, cap, cur, a, Nat.le_trans hb b, r⟩⟩

/-- A slice that is owned reads as its integers. -/
theorem IC.of_owns {w : World} {base : Nat} {a : Option Addr} {n c : Nat} {xs : List Int} {e : TypeId} (h : w.ownsRow base e 1 (.slice a n c) xs.length (xs.map (Value.int .i64))) (hs : xs.length ≤ 17592186044416) : IC w a n xs ∧ n ≤ c := by
  obtain ⟨h1, h2⟩ := h
  rcases h2 with ⟨h2, h3⟩ | ⟨g, cap, cur, hv, hg, hh, hnc, hcm, hsz, htk⟩
  · simp only [Value.slice.injEq] at h2
    obtain ⟨rfl, rfl, rfl⟩ := h2
    exact ⟨⟨⟨h3, by omega⟩, fun k hk => absurd hk (by omega)⟩, Nat.le_refl _⟩
  · simp only [Value.slice.injEq] at hv
    obtain ⟨rfl, rfl, rfl⟩ := hv
    refine ⟨⟨⟨rfl, hs⟩, fun k hk => ⟨g, 0, rfl, (Array.getElem?_eq_some_iff.1 hh).1, ?_⟩⟩, hnc⟩
    rw [cell_of_row w g (0 + k) cur e (0, 0) hh]
    have h4 : (cur.toList.take (xs.length * 1))[k]? = (xs.map (Value.int .i64))[k]? := by rw [htk]
    rw [List.getElem?_take, if_pos (by omega), List.getElem?_map] at h4
    rw [Nat.zero_add]
    rw [List.getElem?_eq_getElem hk] at h4 ⊢
    simpa using h4

set_option maxRecDepth 100000 in
set_option maxHeartbeats 1000000 in
theorem ropen_c (v1 : Value) (cells sum : Int) (a' : Option Addr) (n' c' : Nat) (g : List Int) (w : World) (h' : IC w a' n' g) :
    Calls Try.prog 5 #[.agg #[.int .i64 cells, v1, .int .i64 sum, .slice a' n' c']] w fun e w' => ∃ v, e = .returned v ∧ w'.ownsRow w.heap.size 3 1 v (openL g).length ((openL g).map (Value.int .i64)) ∧ Below w.heap.size w w' := by
  have hm' := h'.small
  obtain ⟨i0, hi, hz0, hz1, hz2⟩ := info_parts infoInt
  go_enter Try.func5, Try.ntmps5
  go_wp2
  have hsz : w.heap.size < (w.alloc (.cells #[.int .i64 cells, v1, .int .i64 sum, .slice a' n' c'] 28)).heap.size := by simp
  have hB : Below w.heap.size w (w.alloc (.cells #[.int .i64 cells, v1, .int .i64 sum, .slice a' n' c'] 28)) := (Below.refl _ _).alloc (Nat.le_refl _) _
  have x0 : (w.alloc (.cells #[.int .i64 cells, v1, .int .i64 sum, .slice a' n' c'] 28)).cell? ⟨w.heap.size, 0, none⟩ = some (.int .i64 cells) := (box_cells w #[.int .i64 cells, v1, .int .i64 sum, .slice a' n' c'] 28 0).trans rfl
  have x1 : (w.alloc (.cells #[.int .i64 cells, v1, .int .i64 sum, .slice a' n' c'] 28)).cell? ⟨w.heap.size, 1, none⟩ = some (v1) := (box_cells w #[.int .i64 cells, v1, .int .i64 sum, .slice a' n' c'] 28 1).trans rfl
  have x2 : (w.alloc (.cells #[.int .i64 cells, v1, .int .i64 sum, .slice a' n' c'] 28)).cell? ⟨w.heap.size, 2, none⟩ = some (.int .i64 sum) := (box_cells w #[.int .i64 cells, v1, .int .i64 sum, .slice a' n' c'] 28 2).trans rfl
  have x3 : (w.alloc (.cells #[.int .i64 cells, v1, .int .i64 sum, .slice a' n' c'] 28)).cell? ⟨w.heap.size, 3, none⟩ = some (.slice a' n' c') := (box_cells w #[.int .i64 cells, v1, .int .i64 sum, .slice a' n' c'] 28 3).trans rfl
  generalize (w.alloc (.cells #[.int .i64 cells, v1, .int .i64 sum, .slice a' n' c'] 28)) = W0 at hsz hB x0 x1 x2 x3 ⊢
  have h0 := h'.mono hB
  have X3 := Go.Lib.hid x3
  clear x0 x1 x2 x3
  go_loopw [3, 4] (fun v i wr => ∃ k : Nat, k ≤ n' ∧ i = .int .i64 k ∧ wr.ownsRow W0.heap.size 3 1 v (openTo g k).length ((openTo g k).map (Value.int .i64)) ∧ Below W0.heap.size W0 wr) (fun _ i _ => n' - (intOf i).toNat)
  case atStart => exact ⟨0, by omega, rfl, World.ownsRow_nil _ _ _ _, Below.refl _ _⟩
  case round =>
    obtain ⟨k, hk, rfl, hown, hbr⟩ := hrel
    have z3 := ((bcell hbr).1 _ _ hsz).trans X3.out
    by_cases hlt : k < n'
    · obtain ⟨b, off, rfl, hb, hc⟩ := (h0.mono hbr).2 k hlt
      have hlen := openTo_len g k
      go_wp2_with (at_builtin; refine wpList_append_own _ rfl _ _ 25 rfl W0.heap.size 3 i0 (.int .i64 0) 1 8 Try.underlying25 hi hz0 hz1 hz2 rfl (by decide) _ _ _ rfl (hown.alloc _) ⟨wr.heap.size, 0, none⟩ 1 1 [.int .i64 k] rfl rfl (cell_one_new _ _ _) (by simp [Value.oneCell']) (by unfold maxLen; omega) (by omega) (by have := hbr.size; simp; omega) ?_)
      · intro v' w1 hown' hgrow _
        have he : (g[k]?.getD 0 == 0) = true := by assumption
        have hb1 : Below W0.heap.size W0 w1 := (hbr.alloc hbr.size _).grown hgrow (by simp; have := hbr.size; omega) (fun j e => (hown.lt j e).1)
        have hown2 : w1.ownsRow W0.heap.size 3 1 v' (openTo g (k + 1)).length ((openTo g (k + 1)).map (Value.int .i64)) := by
          rw [openTo_hit he]; simpa using hown'
        clear hown' hgrow hown
        go_wp2
        go_roundw
        case rel => exact ⟨k + 1, by omega, by go_num, hown2, hb1⟩
        case measure => simp [intOf]; omega
      · have he : (g[k]?.getD 0 == 0) = false := by assumption
        go_roundw
        case rel => exact ⟨k + 1, by omega, by go_num, by rw [openTo_miss he]; exact hown, hbr⟩
        case measure => simp [intOf]; omega
    · have e : k = n' := by omega
      subst e
      go_wp2
      go_ret
      refine ⟨_, rfl, ?_, hB.trans (hbr.mono (by omega))⟩
      rw [openL, h'.len]
      exact owns_base hown (by omega)

end Go.Proofs.Ytcblpobiefmjmaa
