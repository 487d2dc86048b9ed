/- Count: the number of all that is found. -/
import Derived.Test.YtcblpobiefmjmaaI3
namespace Go.Proofs.Ytcblpobiefmjmaa
open Go Go.RowKit
attribute [local go_sem] over_cell
attribute [local go_sem] Oper.semAt_some

def countE (cells : Int) (ls : List (List Int)) (sum : Int) (g : List Int) : Int :=
  if (smallErr cells ls sum g != 0) = true then smallErr cells ls sum g else if 999999999 < (solsL ls sum g []).length then 5 else 0
def countN (cells : Int) (ls : List (List Int)) (sum : Int) (g : List Int) : Int :=
  if (smallErr cells ls sum g != 0) = true then 0 else if 999999999 < (solsL ls sum g []).length then 0 else ((solsL ls sum g []).length : Int)

def CntI (w : World) (b1 b2 b3 : Nat) (pre : List (Value × List Int)) (M : Nat → Prop) (W : World) : Prop :=
  OldI w.heap.size w W M ∧ BoxI W M b1 #[.int .i64 0] 3 ∧ BoxI W M b2 #[.int .i64 0] 32 ∧ BoxI W M b3 #[.int .i64 pre.length] 3 ∧ (pre.length : Int) ≤ 999999999
theorem cntI_stable {w : World} {L b1 b2 b3 : Nat} (hL : w.heap.size ≤ L) : StableL L (CntI w b1 b2 b3) :=
  stable_and (stable_old hL (Nat.le_refl _)) (stable_and (stable_box _ _ _) (stable_and (stable_box _ _ _) (stable_and (stable_box _ (fun (pre : List (Value × List Int)) => #[.int .i64 pre.length]) _) (stable_pure _))))
def CntX (w : World) (b1 b2 : Nat) (c : Code) (pre : List (Value × List Int)) (M : Nat → Prop) (W : World) : Prop :=
  c = .ret ∧ OldI w.heap.size w W M ∧ BoxI W M b1 #[.int .i64 0] 3 ∧ BoxI W M b2 #[.int .i64 5] 32 ∧ (999999999 : Int) < pre.length
theorem cntX_stable {w : World} {L b1 b2 : Nat} (hL : w.heap.size ≤ L) (c : Code) : StableL L (CntX w b1 b2 c) :=
  stable_and (stable_pure _) (stable_and (stable_old hL (Nat.le_refl _)) (stable_and (stable_box _ _ _) (stable_and (stable_box _ _ _) (stable_pure _))))

set_option maxRecDepth 100000 in
set_option maxHeartbeats 2000000 in
theorem count_c (a : Option Addr) (n c : Nat) (ls : List (List Int)) (cells sum : Int) (a' : Option Addr) (n' c' : Nat) (g : List Int) (w : World) (h : RC w a n ls) (hcap : n ≤ c) (h' : IC w a' n' g) (hcap' : n' ≤ c') :
    Calls Try.prog 7 #[.agg #[.int .i64 cells, .slice a n c, .int .i64 sum, .slice a' n' c']] w fun e w' => e = .returned (.tuple #[.int .i64 (countN cells ls sum g), .int .i64 (countE cells ls sum g)]) ∧ Below w.heap.size w w' := by
  have hE : Hid (countE cells ls sum g = if (smallErr cells ls sum g != 0) = true then smallErr cells ls sum g else if 999999999 < (solsL ls sum g []).length then 5 else 0) := rfl
  have hN : Hid (countN cells ls sum g = if (smallErr cells ls sum g != 0) = true then 0 else if 999999999 < (solsL ls sum g []).length then 0 else ((solsL ls sum g []).length : Int)) := rfl
  refine calls_of_marks Try.func7 rfl ?_
  simp only [Try.ntmps7, List.size_toArray, List.length_cons, List.length_nil, Nat.reduceAdd, Nat.reduceSub, Array.replicate_succ, Array.replicate_zero, List.push_toArray, List.append_toArray, List.nil_append, List.cons_append]
  go_wp2_with fail
  have fsz : (((w.alloc (.cells #[.int .i64 cells, .slice a n c, .int .i64 sum, .slice a' n' c'] 27)).alloc (.cells #[.int .i64 0] 3)).alloc (.cells #[.int .i64 0] 32)).heap.size = w.heap.size + 3 := by simp only [World.size_alloc] <;> omega
  have fB : Below w.heap.size w (((w.alloc (.cells #[.int .i64 cells, .slice a n c, .int .i64 sum, .slice a' n' c'] 27)).alloc (.cells #[.int .i64 0] 3)).alloc (.cells #[.int .i64 0] 32)) := (((Below.refl _ _).alloc (Nat.le_refl _) _).alloc (by simp only [World.size_alloc]; omega) _).alloc (by simp only [World.size_alloc]; omega) _
  have fq0 : (((w.alloc (.cells #[.int .i64 cells, .slice a n c, .int .i64 sum, .slice a' n' c'] 27)).alloc (.cells #[.int .i64 0] 3)).alloc (.cells #[.int .i64 0] 32)).heap[w.heap.size]? = some (.cells #[.int .i64 cells, .slice a n c, .int .i64 sum, .slice a' n' c'] 27 (0, 0)) := by have h := World.alloc_heap_new w (.cells #[.int .i64 cells, .slice a n c, .int .i64 sum, .slice a' n' c'] 27); exact (Below.heap_alloc _ _ _ (by simp only [World.size_alloc]; omega)).trans ((Below.heap_alloc _ _ _ (by simp only [World.size_alloc]; omega)).trans (h))
  have fq1 : (((w.alloc (.cells #[.int .i64 cells, .slice a n c, .int .i64 sum, .slice a' n' c'] 27)).alloc (.cells #[.int .i64 0] 3)).alloc (.cells #[.int .i64 0] 32)).heap[w.heap.size + 1]? = some (.cells #[.int .i64 0] 3 (0, 0)) := by have h := World.alloc_heap_new (w.alloc (.cells #[.int .i64 cells, .slice a n c, .int .i64 sum, .slice a' n' c'] 27)) (.cells #[.int .i64 0] 3); simp only [World.size_alloc] at h; exact (Below.heap_alloc _ _ _ (by simp only [World.size_alloc]; omega)).trans (h)
  have fq2 : (((w.alloc (.cells #[.int .i64 cells, .slice a n c, .int .i64 sum, .slice a' n' c'] 27)).alloc (.cells #[.int .i64 0] 3)).alloc (.cells #[.int .i64 0] 32)).heap[w.heap.size + 1 + 1]? = some (.cells #[.int .i64 0] 32 (0, 0)) := by have h := World.alloc_heap_new ((w.alloc (.cells #[.int .i64 cells, .slice a n c, .int .i64 sum, .slice a' n' c'] 27)).alloc (.cells #[.int .i64 0] 3)) (.cells #[.int .i64 0] 32); simp only [World.size_alloc] at h; exact h
  generalize (((w.alloc (.cells #[.int .i64 cells, .slice a n c, .int .i64 sum, .slice a' n' c'] 27)).alloc (.cells #[.int .i64 0] 3)).alloc (.cells #[.int .i64 0] 32)) = W0 at fsz fB fq0 fq1 fq2 ⊢
  have H := Go.Lib.hid h
  have H' := Go.Lib.hid h'
  have HS := Go.Lib.hid (small_c a n c ls cells sum a' n' c' g W0 (h.mono fB) hcap (h'.mono fB) hcap')
  clear h h'
  have HSZ := Go.Lib.hid fsz
  have fsz' : w.heap.size + 2 < W0.heap.size := by omega
  clear fsz
  by_cases he : (smallErr cells ls sum g != 0) = true
  · rw [if_pos he] at hE hN
    have hne : ¬ smallErr cells ls sum g = 0 := by simpa using he
    go_wp2_with (go_at_call 14; refine HS.out.mono ?_; rintro _ w1 ⟨rfl, hb1⟩; have c1 := q_cell (keepq hb1 fq1) 0; have c2 := q_cell (keepq hb1 fq2) 0; have f1 := q_free (keepq hb1 fq1) 0; have f2 := q_free (keepq hb1 fq2) 0)
    have g1 := q_other (q_set (i := 0) (keepq hb1 fq1) (.int .i64 0)) (b' := w.heap.size + 1 + 1) (i := 0) (by omega) (.int .i64 (smallErr cells ls sum g))
    have g2 := q_set (i := 0) (q_other (keepq hb1 fq2) (b' := w.heap.size + 1) (i := 0) (by omega) (.int .i64 0)) (.int .i64 (smallErr cells ls sum g))
    have d1 := q_cell g1 0
    have d2 := q_cell g2 0
    refine marks_none (v := .tuple #[.int .i64 0, .int .i64 (smallErr cells ls sum g)]) ?_ rfl ⟨?_, ?_⟩
    · simp [results, Try.f7, go_sem, d1, d2]
    · rw [hE.out, hN.out]
    · exact (((fB.trans (hb1.mono (by omega))).setCell (p := ⟨w.heap.size + 1, 0, none⟩) (by simp) _).setCell (p := ⟨w.heap.size + 1 + 1, 0, none⟩) (by show w.heap.size ≤ w.heap.size + 1 + 1; omega) _)
  · have he0 : smallErr cells ls sum g = 0 := by simpa using he
    rw [if_neg he] at hE hN
    have hte : taskErr cells ls sum g = 0 := by
      unfold smallErr at he0
      by_cases h1 : (taskErr cells ls sum g != 0) = true
      · rw [if_pos h1] at he0; exact he0
      · simpa using h1
    have G := Go.Lib.hid (goodTask hte)
    rw [he0] at HS
    clear he he0 hte
    have hl' := H'.out.len
    have hl := H.out.len
    have hm' : n' ≤ 256 := by have := G.out.len; have := G.out.cells2; omega
    have hn1 : n ≤ 1000000 := by have := G.out.lines; omega
    go_wp2_with (go_at_call 14; refine HS.out.mono ?_; rintro _ w1 ⟨rfl, hb1⟩; have hA := (Below.refl w1.heap.size w1).alloc (Nat.le_refl _) (.cells #[.int .i64 0] 3); have x0 := q_cell (keepq hA (keepq hb1 fq0)) 0; have x1 := q_cell (keepq hA (keepq hb1 fq0)) 1; have x2 := q_cell (keepq hA (keepq hb1 fq0)) 2; have x3 := q_cell (keepq hA (keepq hb1 fq0)) 3)
    have hz1 := hb1.size
    have g0 := keepq hA (keepq hb1 fq0)
    have g1 := keepq hA (keepq hb1 fq1)
    have g2 := keepq hA (keepq hb1 fq2)
    have g3 : (w1.alloc (.cells #[.int .i64 0] 3)).heap[w1.heap.size]? = some (.cells #[.int .i64 0] 3 (0, 0)) := World.alloc_heap_new _ _
    have hBW : Below w.heap.size w (w1.alloc (.cells #[.int .i64 0] 3)) := (fB.trans (hb1.mono (by omega))).alloc (by omega) _
    have hbn : w1.heap.size < (w1.alloc (.cells #[.int .i64 0] 3)).heap.size := q_lt g3
    clear x0 x1 x2 x3 hA
    generalize (w1.alloc (.cells #[.int .i64 0] 3)) = W2 at g0 g1 g2 g3 hBW hbn ⊢
    have hOlt : ∀ k, k < w.heap.size → k < W2.heap.size := fun k hk => by have := hBW.size; omega
    refine (all_c a n c ls cells sum a' n' c' g W2 (H.out.mono hBW) hcap hn1 (H'.out.mono hBW) hm' (fun k hk => by have := G.out.num k (by omega); have := G.out.cells2; omega) (fun l hl => by have h1 := G.out.lineLen hl; have h2 := G.out.len; exact ⟨h1.1, fun x hx => by have := h1.2 x hx; omega⟩) (fun k => k < w.heap.size) hOlt (old_lines H.out hBW)).mono ?_
    rintro _ w3 ⟨bx, b, Im, ao, co, al, cl, vf, rfl, hbx1, hbx2, hbx3, hbx4, hbx5, hbx6, hsr, hb3, hb4, hb5, hb6⟩
    have p1 := keepq hb3 g1
    have p2 := keepq hb3 g2
    have p3 := keepq hb3 g3
    go_wp2_with fail
    have hnb : ¬ Mut b vf (.slice none 0 0) bx := by
      rintro (e | e | e)
      · exact hbx3 e
      · exact hbx4 e
      · cases e
    have hge : ∀ k, Mut b vf (.slice none 0 0) k → W2.heap.size ≤ k := by
      rintro k (e | e | e)
      · omega
      · exact hb5 k e
      · cases e
    have hgi : ∀ k, KbS Im bx (Mut b vf (.slice none 0 0)) k → k < w.heap.size ∨ W2.heap.size ≤ k := by
      rintro k (e | e | e)
      · exact hb6 k e
      · exact .inr (hge k e)
      · omega
    have hev : Even ⟨cells, a, n, c, ls, sum, a', n', c', g, ao, co, al, cl⟩ := G.out.even
    have h3 : W2.heap.size ≤ w3.heap.size := hb3.size
    refine wp_range_sol hsr hev hbx6 hbx2 hnb rfl
      (CntI w (w.heap.size + 1) (w.heap.size + 1 + 1) w1.heap.size) (CntX w (w.heap.size + 1) (w.heap.size + 1 + 1)) ?hI ?hIx ?h0 ?act ?assign ?body ?done ?stop
    case hI => exact cntI_stable (by omega)
    case hIx => exact cntX_stable (by omega)
    case h0 =>
      have hBW3 := hBW.trans (hb3.mono hBW.size)
      exact ⟨⟨hBW3, fun k hk => by have := hge k hk; have := hBW.size; omega⟩, ⟨p1, fun e => by have := hge _ e; omega⟩, ⟨p2, fun e => by have := hge _ e; omega⟩, ⟨p3, fun e => by have := hge _ e; omega⟩, by simp⟩
    case assign =>
      intro l x W K hK
      gi_wp2
      exact hK
    have hle1 : w.heap.size ≤ w1.heap.size := by omega
    case body =>
      rintro l pre x M W4 W hI0 hst _ _
      obtain ⟨⟨hB, hM⟩, ⟨q1, m1⟩, ⟨q2, m2⟩, ⟨q3, m3⟩, hle⟩ := (cntI_stable (L := w3.heap.size) (by omega)).round hI0 hst
      have c1 := q_cell q1 0
      have c2 := q_cell q2 0
      have c3 := q_cell q3 0
      have f1 := q_free q1 0
      have f2 := q_free q2 0
      have f3 := q_free q3 0
      by_cases hgt : (999999999 : Int) < (pre.length : Int) + 1
      · gi_wp2
        refine ⟨((KeepsOthers.setCell _ _ _).trans (KeepsOthers.setCell _ _ _)).trans (KeepsOthers.setCell _ _ _), ((KpS.setCell _ ?_).trans (KpS.setCell _ ?_)).trans (KpS.setCell _ ?_), rfl, ⟨((hB.setCell (p := ⟨w1.heap.size, 0, none⟩) hle1 _).setCell (p := ⟨w.heap.size + 1, 0, none⟩) (by simp) _).setCell (p := ⟨w.heap.size + 1 + 1, 0, none⟩) (by show w.heap.size ≤ w.heap.size + 1 + 1; omega) _, hM⟩, ⟨?_, m1⟩, ⟨?_, m2⟩, by simp; omega⟩
        · rintro (e | e | e)
          · rcases hb6 _ e with e2 | e2 <;> omega
          · exact m3 e
          · omega
        · rintro (e | e | e)
          · rcases hb6 _ e with e2 | e2 <;> omega
          · exact m1 e
          · omega
        · rintro (e | e | e)
          · rcases hb6 _ e with e2 | e2 <;> omega
          · exact m2 e
          · omega
        · exact q_other (q_set (q_other q1 (by omega) _) _) (by omega) _
        · exact q_set (q_other (q_other q2 (by omega) _) (by omega) _) _
      · gi_wp2
        refine ⟨KeepsOthers.setCell _ _ _, KpS.setCell _ ?_, ⟨hB.setCell (p := ⟨w1.heap.size, 0, none⟩) hle1 _, hM⟩, ⟨q_other q1 (by omega) _, m1⟩, ⟨q_other q2 (by omega) _, m2⟩, ⟨?_, m3⟩, by simp; omega⟩
        · rintro (e | e | e)
          · rcases hb6 _ e with e2 | e2 <;> omega
          · exact m3 e
          · omega
        · have := q_set (i := 0) q3 (.int .i64 ((pre.length : Int) + 1))
          simpa using this
    case done =>
      rintro D xs M W hD hS ⟨⟨hB, hM⟩, ⟨q1, m1⟩, ⟨q2, m2⟩, ⟨q3, m3⟩, hle⟩ hK
      have c1 := q_cell q1 0
      have c2 := q_cell q2 0
      have c3 := q_cell q3 0
      have f1 := q_free q1 0
      have f2 := q_free q2 0
      have HL : Hid (solsL ls sum g [] = xs.map Prod.snd) := hS.symm
      clear hS
      go_wp2
      have r1 := q_other (b' := w.heap.size + 1 + 1) (i := 0) (q_set (i := 0) q1 (.int .i64 xs.length)) (by omega) (.int .i64 0)
      have r2 := q_set (i := 0) (q_other (b' := w.heap.size + 1) (i := 0) q2 (by omega) (.int .i64 xs.length)) (.int .i64 0)
      have hK2 := ((KeepsOthers.setCell W ⟨w.heap.size + 1, 0, none⟩ (.int .i64 xs.length)).trans (KeepsOthers.setCell _ ⟨w.heap.size + 1 + 1, 0, none⟩ (.int .i64 0))).same D _ hK rfl
      have d1 := (putD_cell hK2 ⟨w.heap.size + 1, 0, none⟩).trans (q_cell r1 0)
      have d2 := (putD_cell hK2 ⟨w.heap.size + 1 + 1, 0, none⟩).trans (q_cell r2 0)
      have hlen : (solsL ls sum g []).length = xs.length := by rw [HL.out, List.length_map]
      refine marks_one (v := .tuple #[.int .i64 xs.length, .int .i64 0]) hK2 rfl ?_ ⟨?_, ?_⟩
      · simp [results, Try.f7, go_sem, d1, d2]
      · rw [hE.out, hN.out, hlen, if_neg (by omega), if_neg (by omega)]
      · exact putD_below ((hB.setCell (p := ⟨w.heap.size + 1, 0, none⟩) (by simp) _).setCell (p := ⟨w.heap.size + 1 + 1, 0, none⟩) (by show w.heap.size ≤ w.heap.size + 1 + 1; omega) _) (by omega)
    case stop =>
      rintro D c pre M W hD hS _ ⟨rfl, ⟨hB, hM⟩, ⟨q1, m1⟩, ⟨q2, m2⟩, hgt⟩ hK
      go_wp2
      have d1 := (putD_cell hK ⟨w.heap.size + 1, 0, none⟩).trans (q_cell q1 0)
      have d2 := (putD_cell hK ⟨w.heap.size + 1 + 1, 0, none⟩).trans (q_cell q2 0)
      have hlen : pre.length ≤ (solsL ls sum g []).length := by have := hS.length_le; simpa using this
      refine marks_one (v := .tuple #[.int .i64 0, .int .i64 5]) hK rfl ?_ ⟨?_, ?_⟩
      · simp [results, Try.f7, go_sem, d1, d2]
      · rw [hE.out, hN.out, if_pos (by omega), if_pos (by omega)]
      · exact putD_below hB (by omega)

end Go.Proofs.Ytcblpobiefmjmaa
