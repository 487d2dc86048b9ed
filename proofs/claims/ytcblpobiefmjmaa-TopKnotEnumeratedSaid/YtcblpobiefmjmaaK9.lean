/- The statement's function: the search and the enumeration agree. -/
import Derived.Test.YtcblpobiefmjmaaK7
import Derived.Test.YtcblpobiefmjmaaI4
import Derived.Test.YtcblpobiefmjmaaI6
import Derived.Test.YtcblpobiefmjmaaP5
import Derived.Deep.CutBlock
import Derived.Deep.CutRange
namespace Go.Proofs.Ytcblpobiefmjmaa
open Go Go.RowKit
attribute [local go_sem] over_cell
attribute [local go_sem] Oper.semAt_some

theorem IC.block {W : World} {b : Nat} {vs : Array Value} {T : TypeId} {xs : List Int} (h : W.heap[b]? = some (.cells vs T (0, 0))) (e : vs = (xs.map (Value.int .i64)).toArray) (hs : xs.length ≤ 17592186044416) : IC W (some ⟨b, 0, .none⟩) xs.length xs :=
  ⟨⟨rfl, hs⟩, fun k hk => ⟨b, 0, rfl, q_lt h, by
    rw [Nat.zero_add, q_cell h k, e]
    simp [hk]⟩⟩

theorem RC.block2 {W : World} {b : Nat} {T : TypeId} {a1 a2 : Option Addr} {n1 c1 n2 c2 : Nat} {xs ys : List Int} (h : W.heap[b]? = some (.cells #[.slice a1 n1 c1, .slice a2 n2 c2] T (0, 0))) (h1 : IC W a1 n1 xs) (hc1 : n1 ≤ c1) (h2 : IC W a2 n2 ys) (hc2 : n2 ≤ c2) : RC W (some ⟨b, 0, .none⟩) 2 [xs, ys] :=
  ⟨⟨rfl, by omega⟩, fun k hk => by
    match k, hk with
    | 0, _ => exact ⟨b, 0, a1, n1, c1, rfl, q_lt h, q_cell h 0, h1, hc1⟩
    | 1, _ => exact ⟨b, 0, a2, n2, c2, rfl, q_lt h, q_cell h 1, h2, hc2⟩⟩

theorem knot_vals : smallErr 4 [[0, 1], [2, 3]] 5 [0, 0, 0, 0] = 0 ∧ (solsL [[0, 1], [2, 3]] 5 [0, 0, 0, 0] []).length = 8 ∧ ksmallErr 4 [[0, 1], [2, 3]] = 0 ∧ (fillAll 4 [[0, 1], [2, 3]] 5).length = 8 := by decide +kernel
theorem knot_count : countE 4 [[0, 1], [2, 3]] 5 [0, 0, 0, 0] = 0 ∧ countN 4 [[0, 1], [2, 3]] 5 [0, 0, 0, 0] = 8 := by
  obtain ⟨h1, h2, _, _⟩ := knot_vals
  unfold countE countN
  rw [h1, h2]
  decide
theorem knot_fill : filsE 4 [[0, 1], [2, 3]] 5 = 0 ∧ (filsL 4 [[0, 1], [2, 3]] 5).length = 8 := by
  obtain ⟨_, _, h1, h2⟩ := knot_vals
  unfold filsE filsL
  rw [h1, h2]
  exact ⟨by decide, h2⟩

set_option maxRecDepth 100000 in
set_option maxHeartbeats 4000000 in
theorem knot_c (w : World) : Calls Try.prog 6 #[] w fun e w' => e = .returned (.bool true) ∧ Below w.heap.size w w' := by
  have HC := Go.Lib.hid (fun w1 a n c a' n' c' (h : RC w1 a n [[0, 1], [2, 3]]) (hcap : n ≤ c) (h' : IC w1 a' n' [0, 0, 0, 0]) (hcap' : n' ≤ c') => count_c a n c [[0, 1], [2, 3]] 4 5 a' n' c' [0, 0, 0, 0] w1 h hcap h' hcap')
  have HF := Go.Lib.hid (fun w1 a n c (h : RC w1 a n [[0, 1], [2, 3]]) (hcap : n ≤ c) => fillings_c a n c [[0, 1], [2, 3]] 4 5 w1 h hcap (by decide) (by decide))
  go_enter Try.func6, Try.ntmps6
  go_wp2_with fail
  have fsz : (((((w.alloc (.cells #[.int .i64 0, .int .i64 1] 3)).alloc (.cells #[.int .i64 2, .int .i64 3] 3)).alloc (.cells #[.slice (some ⟨w.heap.size, 0, none⟩) 2 2, .slice (some ⟨w.heap.size + 1, 0, none⟩) 2 2] 25)).alloc (.cells #[.int .i64 0, .int .i64 0, .int .i64 0, .int .i64 0] 3)).alloc (.cells #[.int .i64 4, .slice (some ⟨w.heap.size + 1 + 1, 0, none⟩) 2 2, .int .i64 5, .slice (some ⟨w.heap.size + 1 + 1 + 1, 0, none⟩) 4 4] 27)).heap.size = w.heap.size + 5 := by simp only [World.size_alloc] <;> omega
  have fB : Below w.heap.size w (((((w.alloc (.cells #[.int .i64 0, .int .i64 1] 3)).alloc (.cells #[.int .i64 2, .int .i64 3] 3)).alloc (.cells #[.slice (some ⟨w.heap.size, 0, none⟩) 2 2, .slice (some ⟨w.heap.size + 1, 0, none⟩) 2 2] 25)).alloc (.cells #[.int .i64 0, .int .i64 0, .int .i64 0, .int .i64 0] 3)).alloc (.cells #[.int .i64 4, .slice (some ⟨w.heap.size + 1 + 1, 0, none⟩) 2 2, .int .i64 5, .slice (some ⟨w.heap.size + 1 + 1 + 1, 0, none⟩) 4 4] 27)) := (((((Below.refl _ _).alloc (Nat.le_refl _) _).alloc (by simp only [World.size_alloc]; omega) _).alloc (by simp only [World.size_alloc]; omega) _).alloc (by simp only [World.size_alloc]; omega) _).alloc (by simp only [World.size_alloc]; omega) _
  have fq0 : (((((w.alloc (.cells #[.int .i64 0, .int .i64 1] 3)).alloc (.cells #[.int .i64 2, .int .i64 3] 3)).alloc (.cells #[.slice (some ⟨w.heap.size, 0, none⟩) 2 2, .slice (some ⟨w.heap.size + 1, 0, none⟩) 2 2] 25)).alloc (.cells #[.int .i64 0, .int .i64 0, .int .i64 0, .int .i64 0] 3)).alloc (.cells #[.int .i64 4, .slice (some ⟨w.heap.size + 1 + 1, 0, none⟩) 2 2, .int .i64 5, .slice (some ⟨w.heap.size + 1 + 1 + 1, 0, none⟩) 4 4] 27)).heap[w.heap.size]? = some (.cells #[.int .i64 0, .int .i64 1] 3 (0, 0)) := by have h := World.alloc_heap_new w (.cells #[.int .i64 0, .int .i64 1] 3); exact (Below.heap_alloc _ _ _ (by simp only [World.size_alloc]; omega)).trans ((Below.heap_alloc _ _ _ (by simp only [World.size_alloc]; omega)).trans ((Below.heap_alloc _ _ _ (by simp only [World.size_alloc]; omega)).trans ((Below.heap_alloc _ _ _ (by simp only [World.size_alloc]; omega)).trans (h))))
  have fq1 : (((((w.alloc (.cells #[.int .i64 0, .int .i64 1] 3)).alloc (.cells #[.int .i64 2, .int .i64 3] 3)).alloc (.cells #[.slice (some ⟨w.heap.size, 0, none⟩) 2 2, .slice (some ⟨w.heap.size + 1, 0, none⟩) 2 2] 25)).alloc (.cells #[.int .i64 0, .int .i64 0, .int .i64 0, .int .i64 0] 3)).alloc (.cells #[.int .i64 4, .slice (some ⟨w.heap.size + 1 + 1, 0, none⟩) 2 2, .int .i64 5, .slice (some ⟨w.heap.size + 1 + 1 + 1, 0, none⟩) 4 4] 27)).heap[w.heap.size + 1]? = some (.cells #[.int .i64 2, .int .i64 3] 3 (0, 0)) := by have h := World.alloc_heap_new (w.alloc (.cells #[.int .i64 0, .int .i64 1] 3)) (.cells #[.int .i64 2, .int .i64 3] 3); simp only [World.size_alloc] at h; exact (Below.heap_alloc _ _ _ (by simp only [World.size_alloc]; omega)).trans ((Below.heap_alloc _ _ _ (by simp only [World.size_alloc]; omega)).trans ((Below.heap_alloc _ _ _ (by simp only [World.size_alloc]; omega)).trans (h)))
  have fq2 : (((((w.alloc (.cells #[.int .i64 0, .int .i64 1] 3)).alloc (.cells #[.int .i64 2, .int .i64 3] 3)).alloc (.cells #[.slice (some ⟨w.heap.size, 0, none⟩) 2 2, .slice (some ⟨w.heap.size + 1, 0, none⟩) 2 2] 25)).alloc (.cells #[.int .i64 0, .int .i64 0, .int .i64 0, .int .i64 0] 3)).alloc (.cells #[.int .i64 4, .slice (some ⟨w.heap.size + 1 + 1, 0, none⟩) 2 2, .int .i64 5, .slice (some ⟨w.heap.size + 1 + 1 + 1, 0, none⟩) 4 4] 27)).heap[w.heap.size + 1 + 1]? = some (.cells #[.slice (some ⟨w.heap.size, 0, none⟩) 2 2, .slice (some ⟨w.heap.size + 1, 0, none⟩) 2 2] 25 (0, 0)) := by have h := World.alloc_heap_new ((w.alloc (.cells #[.int .i64 0, .int .i64 1] 3)).alloc (.cells #[.int .i64 2, .int .i64 3] 3)) (.cells #[.slice (some ⟨w.heap.size, 0, none⟩) 2 2, .slice (some ⟨w.heap.size + 1, 0, none⟩) 2 2] 25); simp only [World.size_alloc] at h; exact (Below.heap_alloc _ _ _ (by simp only [World.size_alloc]; omega)).trans ((Below.heap_alloc _ _ _ (by simp only [World.size_alloc]; omega)).trans (h))
  have fq3 : (((((w.alloc (.cells #[.int .i64 0, .int .i64 1] 3)).alloc (.cells #[.int .i64 2, .int .i64 3] 3)).alloc (.cells #[.slice (some ⟨w.heap.size, 0, none⟩) 2 2, .slice (some ⟨w.heap.size + 1, 0, none⟩) 2 2] 25)).alloc (.cells #[.int .i64 0, .int .i64 0, .int .i64 0, .int .i64 0] 3)).alloc (.cells #[.int .i64 4, .slice (some ⟨w.heap.size + 1 + 1, 0, none⟩) 2 2, .int .i64 5, .slice (some ⟨w.heap.size + 1 + 1 + 1, 0, none⟩) 4 4] 27)).heap[w.heap.size + 1 + 1 + 1]? = some (.cells #[.int .i64 0, .int .i64 0, .int .i64 0, .int .i64 0] 3 (0, 0)) := by have h := World.alloc_heap_new (((w.alloc (.cells #[.int .i64 0, .int .i64 1] 3)).alloc (.cells #[.int .i64 2, .int .i64 3] 3)).alloc (.cells #[.slice (some ⟨w.heap.size, 0, none⟩) 2 2, .slice (some ⟨w.heap.size + 1, 0, none⟩) 2 2] 25)) (.cells #[.int .i64 0, .int .i64 0, .int .i64 0, .int .i64 0] 3); simp only [World.size_alloc] at h; exact (Below.heap_alloc _ _ _ (by simp only [World.size_alloc]; omega)).trans (h)
  have fq4 : (((((w.alloc (.cells #[.int .i64 0, .int .i64 1] 3)).alloc (.cells #[.int .i64 2, .int .i64 3] 3)).alloc (.cells #[.slice (some ⟨w.heap.size, 0, none⟩) 2 2, .slice (some ⟨w.heap.size + 1, 0, none⟩) 2 2] 25)).alloc (.cells #[.int .i64 0, .int .i64 0, .int .i64 0, .int .i64 0] 3)).alloc (.cells #[.int .i64 4, .slice (some ⟨w.heap.size + 1 + 1, 0, none⟩) 2 2, .int .i64 5, .slice (some ⟨w.heap.size + 1 + 1 + 1, 0, none⟩) 4 4] 27)).heap[w.heap.size + 1 + 1 + 1 + 1]? = some (.cells #[.int .i64 4, .slice (some ⟨w.heap.size + 1 + 1, 0, none⟩) 2 2, .int .i64 5, .slice (some ⟨w.heap.size + 1 + 1 + 1, 0, none⟩) 4 4] 27 (0, 0)) := by have h := World.alloc_heap_new ((((w.alloc (.cells #[.int .i64 0, .int .i64 1] 3)).alloc (.cells #[.int .i64 2, .int .i64 3] 3)).alloc (.cells #[.slice (some ⟨w.heap.size, 0, none⟩) 2 2, .slice (some ⟨w.heap.size + 1, 0, none⟩) 2 2] 25)).alloc (.cells #[.int .i64 0, .int .i64 0, .int .i64 0, .int .i64 0] 3)) (.cells #[.int .i64 4, .slice (some ⟨w.heap.size + 1 + 1, 0, none⟩) 2 2, .int .i64 5, .slice (some ⟨w.heap.size + 1 + 1 + 1, 0, none⟩) 4 4] 27); simp only [World.size_alloc] at h; exact h
  generalize (((((w.alloc (.cells #[.int .i64 0, .int .i64 1] 3)).alloc (.cells #[.int .i64 2, .int .i64 3] 3)).alloc (.cells #[.slice (some ⟨w.heap.size, 0, none⟩) 2 2, .slice (some ⟨w.heap.size + 1, 0, none⟩) 2 2] 25)).alloc (.cells #[.int .i64 0, .int .i64 0, .int .i64 0, .int .i64 0] 3)).alloc (.cells #[.int .i64 4, .slice (some ⟨w.heap.size + 1 + 1, 0, none⟩) 2 2, .int .i64 5, .slice (some ⟨w.heap.size + 1 + 1 + 1, 0, none⟩) 4 4] 27)) = W0 at fsz fB fq0 fq1 fq2 fq3 fq4 ⊢
  have hR : RC W0 (some ⟨w.heap.size + 1 + 1, 0, none⟩) 2 [[0, 1], [2, 3]] := RC.block2 fq2 (IC.block (xs := [0, 1]) fq0 rfl (by decide)) (Nat.le_refl 2) (IC.block (xs := [2, 3]) fq1 rfl (by decide)) (Nat.le_refl 2)
  have hG : IC W0 (some ⟨w.heap.size + 1 + 1 + 1, 0, none⟩) 4 [0, 0, 0, 0] := IC.block (xs := [0, 0, 0, 0]) fq3 rfl (by decide)
  refine (HC.out W0 _ _ _ _ _ _ hR (Nat.le_refl 2) hG (Nat.le_refl 4)).mono ?_
  rintro _ w1 ⟨rfl, hb1⟩
  rw [knot_count.1, knot_count.2]
  have g4 := keepq hb1 fq4
  have c0 := q_cell g4 0
  have c1 := q_cell g4 1
  have hR1 := hR.mono hb1
  have hB := fB.trans (hb1.mono (by omega))
  clear HC fq0 fq1 fq2 fq3 fq4 hR hG hb1 fsz fB
  go_wp2_with (go_at_call 9; refine (HF.out w1 _ _ _ hR1 (Nat.le_refl 2)).mono ?_; rintro _ w2 ⟨ar, nr, cr, rfl, hr, hcr, hb2⟩; have hlen := hr.len; have hsm := hr.small; rw [knot_fill.2] at hlen; subst hlen; rw [knot_fill.1])
  go_ret
  exact ⟨rfl, hB.trans (hb2.mono hB.size)⟩

set_option maxRecDepth 100000 in
set_option maxHeartbeats 4000000 in
theorem enum_c (a : Option Addr) (n c : Nat) (ls : List (List Int)) (cells sum : Int) (a' : Option Addr) (n' c' : Nat) (g : List Int) (w : World) (h : RC w a n ls) (hcap : n ≤ c) (h' : IC w a' n' g) (hcap' : n' ≤ c') :
    Calls Try.prog 3 #[.agg #[.int .i64 cells, .slice a n c, .int .i64 sum, .slice a' n' c']] w fun e w' => e = .returned (.bool true) ∧ Below w.heap.size w w' := by
  have H := Go.Lib.hid h
  have H' := Go.Lib.hid h'
  have hm := h.small
  have hm' := h'.small
  have hgl := Go.Lib.hid h'.len
  have HF := Go.Lib.hid (fun w1 (hb : Below w.heap.size w w1) => few6_c a n c ls cells sum a' n' c' g 9 7 w1 (h.mono hb) hcap (h'.mono hb) hcap')
  have HO := Go.Lib.hid (fun w1 (hb : Below w.heap.size w w1) => ropen_c (.slice a n c) cells sum a' n' c' g w1 (h'.mono hb))
  clear h h'
  go_enter Try.func3, Try.ntmps3
  go_upto_region 2 with fail
  have fsz : ((w.alloc (.cells #[.int .i64 cells, .slice a n c, .int .i64 sum, .slice a' n' c'] 27)).alloc (.cells #[.int .i64 cells, .slice a n c, .int .i64 sum, .slice a' n' c'] 28)).heap.size = w.heap.size + 2 := by simp only [World.size_alloc] <;> omega
  have fB : Below w.heap.size w ((w.alloc (.cells #[.int .i64 cells, .slice a n c, .int .i64 sum, .slice a' n' c'] 27)).alloc (.cells #[.int .i64 cells, .slice a n c, .int .i64 sum, .slice a' n' c'] 28)) := ((Below.refl _ _).alloc (Nat.le_refl _) _).alloc (by simp only [World.size_alloc]; omega) _
  have fq0 : ((w.alloc (.cells #[.int .i64 cells, .slice a n c, .int .i64 sum, .slice a' n' c'] 27)).alloc (.cells #[.int .i64 cells, .slice a n c, .int .i64 sum, .slice a' n' c'] 28)).heap[w.heap.size]? = some (.cells #[.int .i64 cells, .slice a n c, .int .i64 sum, .slice a' n' c'] 27 (0, 0)) := by have h := World.alloc_heap_new w (.cells #[.int .i64 cells, .slice a n c, .int .i64 sum, .slice a' n' c'] 27); exact (Below.heap_alloc _ _ _ (by simp only [World.size_alloc]; omega)).trans (h)
  have fq1 : ((w.alloc (.cells #[.int .i64 cells, .slice a n c, .int .i64 sum, .slice a' n' c'] 27)).alloc (.cells #[.int .i64 cells, .slice a n c, .int .i64 sum, .slice a' n' c'] 28)).heap[w.heap.size + 1]? = some (.cells #[.int .i64 cells, .slice a n c, .int .i64 sum, .slice a' n' c'] 28 (0, 0)) := by have h := World.alloc_heap_new (w.alloc (.cells #[.int .i64 cells, .slice a n c, .int .i64 sum, .slice a' n' c'] 27)) (.cells #[.int .i64 cells, .slice a n c, .int .i64 sum, .slice a' n' c'] 28); simp only [World.size_alloc] at h; exact h
  generalize ((w.alloc (.cells #[.int .i64 cells, .slice a n c, .int .i64 sum, .slice a' n' c'] 27)).alloc (.cells #[.int .i64 cells, .slice a n c, .int .i64 sum, .slice a' n' c'] 28)) = W0 at fsz fB fq0 fq1 ⊢
  have HSZ := Go.Lib.hid fsz
  have fsz' : w.heap.size + 1 < W0.heap.size := by omega
  clear fsz
  go_cut [44] from 16 to 44 (fun v wx => ∃ b : Bool, v = .bool b ∧ (b = false → Hid (few6B 9 7 cells sum ls g = true)) ∧ Below W0.heap.size W0 wx)
  case first =>
    have HF0 := Go.Lib.hid (HF.out W0 fB)
    have y0 := q_cell fq1 0
    have y1 := q_cell fq1 1
    have y2 := q_cell fq1 2
    have y3 := q_cell fq1 3
    by_cases hf : few6B 9 7 cells sum ls g = true
    · have HFEW := Go.Lib.hid hf
      rw [hf] at HF0
      clear hf HF
      by_cases h7 : 7 < cells
      · by_cases hl : (n : Int) < 4
        · go_wp2_with (first | (go_at_call 4; refine HF0.out.mono ?_; rintro _ w1 ⟨rfl, hb1⟩; have z0 := q_cell (keepq hb1 fq1) 0; have z1 := q_cell (keepq hb1 fq1) 1; have z2 := q_cell (keepq hb1 fq1) 2; have z3 := q_cell (keepq hb1 fq1) 3) | (go_at_call 5; refine (HO.out w1 (fB.trans (hb1.mono (by omega)))).mono ?_; rintro _ w2 ⟨v2, rfl, hown, hb2⟩; obtain ⟨a2, c2, rfl⟩ := owns_shape hown; have q0 := q_cell (keepq (hb1.trans (hb2.mono hb1.size)) fq1) 0))
          go_meet
          exact ⟨_, rfl, fun _ => HFEW.out, hb1⟩
        · by_cases ho : 6 < ((openL g).length : Int)
          · go_wp2_with (first | (go_at_call 4; refine HF0.out.mono ?_; rintro _ w1 ⟨rfl, hb1⟩; have z0 := q_cell (keepq hb1 fq1) 0; have z1 := q_cell (keepq hb1 fq1) 1; have z2 := q_cell (keepq hb1 fq1) 2; have z3 := q_cell (keepq hb1 fq1) 3) | (go_at_call 5; refine (HO.out w1 (fB.trans (hb1.mono (by omega)))).mono ?_; rintro _ w2 ⟨v2, rfl, hown, hb2⟩; obtain ⟨a2, c2, rfl⟩ := owns_shape hown; have q0 := q_cell (keepq (hb1.trans (hb2.mono hb1.size)) fq1) 0))
            go_meet
            exact ⟨_, rfl, fun _ => HFEW.out, hb1.trans (hb2.mono hb1.size)⟩
          · go_wp2_with (first | (go_at_call 4; refine HF0.out.mono ?_; rintro _ w1 ⟨rfl, hb1⟩; have z0 := q_cell (keepq hb1 fq1) 0; have z1 := q_cell (keepq hb1 fq1) 1; have z2 := q_cell (keepq hb1 fq1) 2; have z3 := q_cell (keepq hb1 fq1) 3) | (go_at_call 5; refine (HO.out w1 (fB.trans (hb1.mono (by omega)))).mono ?_; rintro _ w2 ⟨v2, rfl, hown, hb2⟩; obtain ⟨a2, c2, rfl⟩ := owns_shape hown; have q0 := q_cell (keepq (hb1.trans (hb2.mono hb1.size)) fq1) 0))
            go_meet
            exact ⟨_, rfl, fun _ => HFEW.out, hb1.trans (hb2.mono hb1.size)⟩
      · by_cases ho : 6 < ((openL g).length : Int)
        · go_wp2_with (first | (go_at_call 4; refine HF0.out.mono ?_; rintro _ w1 ⟨rfl, hb1⟩; have z0 := q_cell (keepq hb1 fq1) 0; have z1 := q_cell (keepq hb1 fq1) 1; have z2 := q_cell (keepq hb1 fq1) 2; have z3 := q_cell (keepq hb1 fq1) 3) | (go_at_call 5; refine (HO.out w1 (fB.trans (hb1.mono (by omega)))).mono ?_; rintro _ w2 ⟨v2, rfl, hown, hb2⟩; obtain ⟨a2, c2, rfl⟩ := owns_shape hown; have q0 := q_cell (keepq (hb1.trans (hb2.mono hb1.size)) fq1) 0))
          go_meet
          exact ⟨_, rfl, fun _ => HFEW.out, hb1.trans (hb2.mono hb1.size)⟩
        · go_wp2_with (first | (go_at_call 4; refine HF0.out.mono ?_; rintro _ w1 ⟨rfl, hb1⟩; have z0 := q_cell (keepq hb1 fq1) 0; have z1 := q_cell (keepq hb1 fq1) 1; have z2 := q_cell (keepq hb1 fq1) 2; have z3 := q_cell (keepq hb1 fq1) 3) | (go_at_call 5; refine (HO.out w1 (fB.trans (hb1.mono (by omega)))).mono ?_; rintro _ w2 ⟨v2, rfl, hown, hb2⟩; obtain ⟨a2, c2, rfl⟩ := owns_shape hown; have q0 := q_cell (keepq (hb1.trans (hb2.mono hb1.size)) fq1) 0))
          go_meet
          exact ⟨_, rfl, fun _ => HFEW.out, hb1.trans (hb2.mono hb1.size)⟩
    · have hf2 : few6B 9 7 cells sum ls g = false := by simpa using hf
      rw [hf2] at HF0
      clear hf hf2 HF
      go_wp2_with (first | (go_at_call 4; refine HF0.out.mono ?_; rintro _ w1 ⟨rfl, hb1⟩; have z0 := q_cell (keepq hb1 fq1) 0; have z1 := q_cell (keepq hb1 fq1) 1; have z2 := q_cell (keepq hb1 fq1) 2; have z3 := q_cell (keepq hb1 fq1) 3) | (go_at_call 5; refine (HO.out w1 (fB.trans (hb1.mono (by omega)))).mono ?_; rintro _ w2 ⟨v2, rfl, hown, hb2⟩; obtain ⟨a2, c2, rfl⟩ := owns_shape hown; have q0 := q_cell (keepq (hb1.trans (hb2.mono hb1.size)) fq1) 0))
      go_meet
      exact ⟨_, rfl, fun e => absurd e (by decide), hb1⟩
  case rest =>
    obtain ⟨b, rfl, hfew, hbw⟩ := hcut
    have hB1 : Below w.heap.size w wc := fB.trans (hbw.mono (by omega))
    cases b with
    | true =>
      clear hfew
      have HK := Go.Lib.hid (knot_c wc)
      go_wp2_with (go_at_call 6; refine HK.out.mono ?_; rintro _ w1 ⟨rfl, hb1⟩)
      go_ret
      exact ⟨rfl, hB1.trans (hb1.mono hB1.size)⟩
    | false =>
      obtain ⟨A, hA⟩ := answers (hfew rfl).out
      have HA := Go.Lib.hid hA
      clear hfew hA
      have p0 := keepq hbw fq0
      have x0 := q_cell p0 0
      have x1 := q_cell p0 1
      have x2 := q_cell p0 2
      have x3 := q_cell p0 3
      have hzb := hbw.size
      go_wp2_with fail
      refine (count_c a n c ls cells sum a' n' c' g wc (H.out.mono hB1) hcap (H'.out.mono hB1) hcap').mono ?_
      rintro _ w1 ⟨rfl, hb1⟩
      rw [HA.out.cE, HA.out.cN]
      have p1 := keepq hb1 p0
      have hB2 := hB1.trans (hb1.mono hB1.size)
      clear x0 x1 x2 x3
      have x0 := q_cell p1 0
      have x1 := q_cell p1 1
      have x2 := q_cell p1 2
      have x3 := q_cell p1 3
      go_wp2_with fail
      refine (comp_c a n c ls cells sum a' n' c' g 256 w1 (H.out.mono hB2) hcap (H'.out.mono hB2) hcap').mono ?_
      rintro _ w2 ⟨la, ln, lc, rfl, hlr, hlc, hb2⟩
      rw [HA.out.pE]
      have p2 := keepq hb2 p1
      have hB3 := hB2.trans (hb2.mono hB2.size)
      clear x0 x1 x2 x3
      have x0 := q_cell p2 0
      have x1 := q_cell p2 1
      have x2 := q_cell p2 2
      go_wp2_with fail
      refine (fillings_c a n c ls cells sum w2 (H.out.mono hB3) hcap HA.out.sum1 HA.out.sum2).mono ?_
      rintro _ w3 ⟨aa, an, ac, rfl, har, hac, hb3⟩
      have hfE := Go.Lib.hid HA.out.fE
      have hfL := Go.Lib.hid HA.out.fL
      rw [HA.out.pL] at hlr
      have hlr3 := hlr.mono hb3
      have p3 := keepq hb3 p2
      have hB4 := hB3.trans (hb3.mono hB3.size)
      clear x0 x1 x2 hlr p0 p1 p2 hb1 hb2 hb3 hB1 hB2 hB3
      by_cases hbig : 1024 < A.length
      · rw [if_pos hbig] at hfE
        rw [hfE.out]
        clear hbig hfE hfL
        have HK := Go.Lib.hid (knot_c w3)
        go_wp2_with (go_at_call 6; refine HK.out.mono ?_; rintro _ w4 ⟨rfl, hb4⟩)
        go_ret
        exact ⟨rfl, hB4.trans (hb4.mono hB4.size)⟩
      · rw [if_neg hbig] at hfE hfL
        rw [hfL.out] at har
        rw [hfE.out]
        have hG3 := H'.out.mono hB4
        clear hbig hfE hfL hcap hcap' H H' HF HO fq0 fq1 fB
        have hlln := Go.Lib.hid hlr3.len
        have hlns := hlr3.small
        have hans := har.small
        have hanl := Go.Lib.hid har.len
        obtain ⟨F, hF⟩ : ∃ F, (A.filter (extB g)).length = F := ⟨_, rfl⟩
        rw [hF]
        have HFn := Go.Lib.hid hF
        clear hF
        go_wp2_with fail
        go_loopg [10, 12, 13, 14, 15, 89] an (fun gk kv _ _ _ _ iv wv => ∃ i : Nat, gk = an - i ∧ i ≤ an ∧ kv = .int .i64 (keptTo g A i) ∧ iv = .int .i64 i ∧ Below w3.heap.size w3 wv)
        case atStart => exact ⟨0, by omega, by omega, rfl, rfl, Below.refl _ _⟩
        case round =>
          obtain ⟨i, rfl, hi, rfl, rfl, hbi⟩ := hrel
          by_cases hlt : i < an
          · obtain ⟨b, off, fa, fn, fc, rfl, hb, hc, hic, hfc⟩ := (har.mono hbi).2 i hlt
            have hfn : fn = n' := by
              have h1 := hic.len
              have hiA : i < A.length := by rw [hanl.out]; exact hlt
              have h2 := HA.out.len _ (List.getElem_mem hiA)
              have h3 := hgl.out
              rw [List.getElem?_eq_getElem hiA, Option.getD_some] at h1
              omega
            subst hfn
            generalize hgf : A[i]?.getD [] = f at hic
            have HGF := Go.Lib.hid hgf
            have hG := hG3.mono hbi
            have b3 := q_cell (keepq hbi p3) 3
            clear hgf
            go_wp2_with fail

            go_loopg [13, 14, 15, 102] fn (fun gk2 ev _ _ jv wv => ∃ j : Nat, gk2 = fn - j ∧ j ≤ fn ∧ jv = .int .i64 j ∧ ev = .bool (extTo g f j) ∧ wv = wr)
            case atStart => exact ⟨0, by omega, by omega, rfl, rfl, rfl⟩
            case round =>
              obtain ⟨j, rfl, hj, rfl, rfl, hwv⟩ := hrel
              replace hwv := hwv.symm
              subst hwv
              by_cases hltj : j < fn
              · obtain ⟨bg, og, rfl, hbg, hcg⟩ := hG.2 j hltj
                obtain ⟨bf, of, rfl, hbf, hcf⟩ := hic.2 j hltj
                have HS := Go.Lib.hid (extTo_succ g f j)
                generalize g[j]?.getD 0 = x at hcg HS
                generalize f[j]?.getD 0 = y at hcf HS
                generalize hex : extTo g f j = ex at HS ⊢
                have HEX := Go.Lib.hid hex
                clear hex
                cases ex with
                | false =>
                  go_wp2
                  go_roundg (fn - (j + 1))
                  case measure => omega
                  case rel => exact ⟨j + 1, rfl, by omega, by go_num, by rw [HS.out]; rfl, rfl⟩
                | true =>
                  by_cases hx : (x == 0) = true
                  · have HX := Go.Lib.hid hx
                    go_wp2
                    go_roundg (fn - (j + 1))
                    case measure => omega
                    case rel => exact ⟨j + 1, rfl, by omega, by go_num, by rw [HS.out, HX.out]; rfl, rfl⟩
                  · have hx2 : (x == 0) = false := by simpa using hx
                    have HX := Go.Lib.hid hx2
                    clear hx
                    go_wp2
                    go_roundg (fn - (j + 1))
                    case measure => omega
                    case rel => exact ⟨j + 1, rfl, by omega, by go_num, by rw [HS.out, HX.out]; simp, rfl⟩
              · have e : j = fn := by omega
                subst e
                have hiA : i < A.length := by rw [hanl.out]; exact hlt
                have he1 : extTo g f j = extB g f := by rw [← hgl.out]; exact extTo_all g f
                rw [he1]
                clear he1
                cases hx : extB g f with
                | false =>
                  have HK := Go.Lib.hid (keptTo_miss (g := g) hiA (by rw [HGF.out]; exact hx))
                  clear hx hiA
                  go_wp2
                  go_roundg (an - (i + 1))
                  case measure => omega
                  case rel => exact ⟨i + 1, rfl, by omega, by rw [HK.out], by go_num, hbi⟩
                | true =>
                  have HK := Go.Lib.hid (keptTo_hit (g := g) hiA (by rw [HGF.out]; exact hx)).1
                  have hki := keptTo_le g A i
                  by_cases hk : (keptTo g A i : Int) < 256
                  · have HT := kept_take (g := g) hiA (by rw [HGF.out]; exact hx) (by omega)
                    have hkl : keptTo g A i < ln := by rw [← hlln.out]; exact HT.1
                    have hT2 := HT.2
                    obtain ⟨bl, ol, ya, yn, yc, rfl, hbl, hcl, hyl, hyc⟩ := (hlr3.mono hbi).2 _ hkl
                    rw [hT2, HGF.out] at hyl
                    have HSM := Go.Lib.hid (same_c ya fa yn j yc fc f f wr hyl hic)
                    have hsame : sameB f f = true := by simp [sameB]
                    rw [hsame] at HSM
                    generalize keptTo g A i = k at HK hki hk hkl hcl ⊢
                    have hkl2 : (k : Int) < (ln : Int) := by omega
                    clear hx hiA hsame HT hT2
                    go_wp2_with (go_at_call 10; refine HSM.out.mono ?_; rintro _ w5 ⟨rfl, hb5⟩)
                    go_roundg (an - (i + 1))
                    case measure => omega
                    case rel => exact ⟨i + 1, rfl, by omega, by rw [HK.out]; go_num, by go_num, hbi.trans (hb5.mono hbi.size)⟩
                  · generalize keptTo g A i = k at HK hki hk ⊢
                    clear hx hiA
                    go_wp2
                    go_roundg (an - (i + 1))
                    case measure => omega
                    case rel => exact ⟨i + 1, rfl, by omega, by rw [HK.out]; go_num, by go_num, hbi⟩
          · have e : i = an := by omega
            subst e
            have hkF : keptTo g A i = F := by rw [← hanl.out, keptTo_all]; exact HFn.out
            rw [hkF]
            have hln : (ln : Int) = min (F : Int) 256 := by
              have h1 := hlln.out
              rw [List.length_take, HFn.out] at h1
              omega
            clear hkF
            have HKN := Go.Lib.hid (knot_c wr)
            by_cases hF6 : (F : Int) ≤ 256
            · have e : ln = F := by omega
              subst e
              clear hln
              go_wp2_with (go_at_call 6; refine HKN.out.mono ?_; rintro _ w5 ⟨rfl, hb5⟩)
              go_ret
              exact ⟨rfl, hB4.trans ((hbi.trans (hb5.mono hbi.size)).mono hB4.size)⟩
            · have e : ln = 256 := by omega
              subst e
              clear hln
              go_wp2_with (go_at_call 6; refine HKN.out.mono ?_; rintro _ w5 ⟨rfl, hb5⟩)
              go_ret
              exact ⟨rfl, hB4.trans ((hbi.trans (hb5.mono hbi.size)).mono hB4.size)⟩

end Go.Proofs.Ytcblpobiefmjmaa
