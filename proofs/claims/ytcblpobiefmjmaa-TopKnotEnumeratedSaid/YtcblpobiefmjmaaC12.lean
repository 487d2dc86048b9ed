/- Contracts: the program's open cells and unused numbers; a copy of a list; a task that is small. -/
import Derived.Test.YtcblpobiefmjmaaC11
namespace Go.Proofs.Ytcblpobiefmjmaa
open Go Go.RowKit
attribute [local go_sem] over_cell

set_option maxRecDepth 100000 in
set_option maxHeartbeats 1000000 in
theorem open_c (v1 : Value) (cells sum : Int) (a' : Option Addr) (n' c' : Nat) (g : List Int) (w : World) (h' : IC w a' n' g) :
    Calls Try.prog 26 #[.agg #[.int .i64 cells, v1, .int .i64 sum, .slice a' n' c']] w fun e w' => ∃ v, e = .returned v ∧ w'.ownsRow w.heap.size 3 1 v (openL g).length ((openL g).map (Value.int .i64)) ∧ Below w.heap.size w w' := by
  have hm' := h'.small
  obtain ⟨i0, hi, hz0, hz1, hz2⟩ := info_parts infoInt
  go_enter Try.func26, Try.ntmps26
  go_wp2
  have hsz : w.heap.size < (w.alloc (.cells #[.int .i64 cells, v1, .int .i64 sum, .slice a' n' c'] 27)).heap.size := by simp
  have hB : Below w.heap.size w (w.alloc (.cells #[.int .i64 cells, v1, .int .i64 sum, .slice a' n' c'] 27)) := (Below.refl _ _).alloc (Nat.le_refl _) _
  have x0 : (w.alloc (.cells #[.int .i64 cells, v1, .int .i64 sum, .slice a' n' c'] 27)).cell? ⟨w.heap.size, 0, none⟩ = some (.int .i64 cells) := (box_cells w #[.int .i64 cells, v1, .int .i64 sum, .slice a' n' c'] 27 0).trans rfl
  have x1 : (w.alloc (.cells #[.int .i64 cells, v1, .int .i64 sum, .slice a' n' c'] 27)).cell? ⟨w.heap.size, 1, none⟩ = some (v1) := (box_cells w #[.int .i64 cells, v1, .int .i64 sum, .slice a' n' c'] 27 1).trans rfl
  have x2 : (w.alloc (.cells #[.int .i64 cells, v1, .int .i64 sum, .slice a' n' c'] 27)).cell? ⟨w.heap.size, 2, none⟩ = some (.int .i64 sum) := (box_cells w #[.int .i64 cells, v1, .int .i64 sum, .slice a' n' c'] 27 2).trans rfl
  have x3 : (w.alloc (.cells #[.int .i64 cells, v1, .int .i64 sum, .slice a' n' c'] 27)).cell? ⟨w.heap.size, 3, none⟩ = some (.slice a' n' c') := (box_cells w #[.int .i64 cells, v1, .int .i64 sum, .slice a' n' c'] 27 3).trans rfl
  generalize (w.alloc (.cells #[.int .i64 cells, v1, .int .i64 sum, .slice a' n' c'] 27)) = W0 at hsz hB x0 x1 x2 x3 ⊢
  have h0 := h'.mono hB
  clear x0 x1 x2 x3
  go_loopw [3, 4, 5, 9] (fun v _ _ i wr => ∃ k : Nat, k ≤ n' ∧ i = .int .i64 k ∧ wr.ownsRow W0.heap.size 3 1 v (openTo g k).length ((openTo g k).map (Value.int .i64)) ∧ Below W0.heap.size W0 wr) (fun _ _ _ i _ => n' - (intOf i).toNat)
  case atStart => exact ⟨0, by omega, rfl, World.ownsRow_nil _ _ _ _, Below.refl _ _⟩
  case round =>
    obtain ⟨k, hk, rfl, hown, hbr⟩ := hrel
    by_cases hlt : k < n'
    · obtain ⟨b, off, rfl, hb, hc⟩ := (h0.mono hbr).2 k hlt
      have hlen := openTo_len g k
      go_wp2_with (at_builtin; refine wpList_append_own _ rfl _ _ 25 rfl W0.heap.size 3 i0 (.int .i64 0) 1 8 Try.underlying25 hi hz0 hz1 hz2 rfl (by decide) _ _ _ rfl (hown.alloc _) ⟨wr.heap.size, 0, none⟩ 1 1 [.int .i64 k] rfl rfl (cell_one_new _ _ _) (by simp [Value.oneCell']) (by unfold maxLen; omega) (by omega) (by have := hbr.size; simp; omega) ?_)
      · intro v' w1 hown' hgrow _
        have he : (g[k]?.getD 0 == 0) = true := by assumption
        have hb1 : Below W0.heap.size W0 w1 := (hbr.alloc hbr.size _).grown hgrow (by simp; have := hbr.size; omega) (fun j e => (hown.lt j e).1)
        have hown2 : w1.ownsRow W0.heap.size 3 1 v' (openTo g (k + 1)).length ((openTo g (k + 1)).map (Value.int .i64)) := by
          rw [openTo_hit he]; simpa using hown'
        clear hown' hgrow hown
        go_wp2
        go_roundw
        case rel => exact ⟨k + 1, by omega, by go_num, hown2, hb1⟩
        case measure => simp [intOf]; omega
      · have he : (g[k]?.getD 0 == 0) = false := by assumption
        go_roundw
        case rel => exact ⟨k + 1, by omega, by go_num, by rw [openTo_miss he]; exact hown, hbr⟩
        case measure => simp [intOf]; omega
    · have e : k = n' := by omega
      subst e
      go_wp2
      go_ret
      refine ⟨_, rfl, ?_, hB.trans (hbr.mono (by omega))⟩
      rw [openL, h'.len]
      exact owns_base hown (by omega)

theorem PutW.set {w w' : World} {b off M M' : Nat} (h : SetC w b off M) (hp : PutW w w' b off M M') : SetC w' b off M' := by
  obtain ⟨q, hq, rfl, ho⟩ := hp
  intro q' hq'
  show (w.setCell _ _).cell? _ = _
  by_cases e : q' = q
  · subst e
    exact World.cell?_setCell_same _ _ _ (h q' hq')
  · rw [World.cell?_setCell_other _ _ _ _ (fun e2 => e (by simp only [Addr.mk.injEq, true_and, and_true] at e2; omega)), h q' hq', ho q' e]

theorem PutW.frozen {w w' : World} {b off M M' : Nat} (hp : PutW w w' b off M M') (a : Addr) : w'.frozen? a = w.frozen? a := by
  obtain ⟨q, hq, rfl, ho⟩ := hp
  show (w.setCell _ _).frozen? _ = _
  exact World.frozen?_setCell _ _ _ _

theorem SetC.mono {w w' : World} {b off M : Nat} (h : SetC w b off M) (hb : Below w.heap.size w w') (hlt : b < w.heap.size) : SetC w' b off M :=
  fun q hq => ((bcell hb).1 b _ hlt).trans (h q hq)

theorem PutW.size {w w' : World} {b off M M' : Nat} (hp : PutW w w' b off M M') : w.heap.size = w'.heap.size := by
  obtain ⟨q, hq, rfl, ho⟩ := hp
  simp [World.drew, World.setCell]

theorem PutW.below {w w' : World} {b off M M' : Nat} (hp : PutW w w' b off M M') : Below b w w' := by
  obtain ⟨q, hq, rfl, ho⟩ := hp
  exact ((Below.refl b w).setCell (p := ⟨b, off + q, none⟩) (Nat.le_refl _) _).drew

/-- The positive numbers of a list, as a set. -/
def maskL (xs : List Int) : Nat := xs.foldl (fun M x => if 0 < x then M ||| 2 ^ (x.toNat - 1) else M) 0

theorem maskL_snoc (xs : List Int) (x : Int) : maskL (xs ++ [x]) = if 0 < x then maskL xs ||| 2 ^ (x.toNat - 1) else maskL xs := by
  simp [maskL, List.foldl_append]

theorem hasB_cons (x : Int) (xs : List Int) (y : Int) : hasB (x :: xs) y = (decide (x = y) || hasB xs y) := by
  unfold hasB
  rw [Bool.eq_iff_iff]
  by_cases e : x = y
  · subst e; simp
  · have e' : ¬ y = x := fun h => e h.symm
    simp [e, e']

theorem testBit_maskL (xs : List Int) (j : Nat) : (maskL xs).testBit j = hasB xs ((j : Int) + 1) := by
  have key : ∀ (xs : List Int) (M : Nat), (xs.foldl (fun M x => if 0 < x then M ||| 2 ^ (x.toNat - 1) else M) M).testBit j = (M.testBit j || hasB xs ((j : Int) + 1)) := by
    intro xs
    induction xs with
    | nil => intro M; simp [hasB]
    | cons x xs ih =>
      intro M
      rw [List.foldl_cons, ih]
      have e : hasB (x :: xs) ((j : Int) + 1) = (decide (x = (j : Int) + 1) || hasB xs ((j : Int) + 1)) := hasB_cons x xs _
      rw [e]
      by_cases hx : 0 < x
      · rw [if_pos hx, Nat.testBit_or, Nat.testBit_two_pow]
        have : decide (x.toNat - 1 = j) = decide (x = (j : Int) + 1) := by
          rw [decide_eq_decide]; omega
        rw [this, Bool.or_assoc]
      · rw [if_neg hx]
        have : decide (x = (j : Int) + 1) = false := by simp; omega
        rw [this]; simp
  have := key xs 0
  simpa [maskL] using this

/-- The numbers from 1 to k that are not in a list. -/
def unusedTo (g : List Int) (k : Nat) : List Int := ((List.range k).filter (fun (i : Nat) => !hasB g ((i : Int) + 1))).map (fun (i : Nat) => (i : Int) + 1)
def unusedL (g : List Int) : List Int := unusedTo g g.length
theorem unusedTo_hit {g : List Int} {k : Nat} (h : hasB g ((k : Int) + 1) = false) : unusedTo g (k + 1) = unusedTo g k ++ [(k : Int) + 1] := by
  simp only [unusedTo, List.range_succ, List.filter_append, List.map_append]
  congr 1
  simp [h]
theorem unusedTo_miss {g : List Int} {k : Nat} (h : hasB g ((k : Int) + 1) = true) : unusedTo g (k + 1) = unusedTo g k := by
  simp only [unusedTo, List.range_succ, List.filter_append, List.map_append]
  simp [h]
theorem unusedTo_len (g : List Int) (k : Nat) : (unusedTo g k).length ≤ k := by
  simp only [unusedTo, List.length_map]
  have := List.length_filter_le (fun (i : Nat) => !hasB g ((i : Int) + 1)) (List.range k)
  simpa using this

set_option maxRecDepth 100000 in
set_option maxHeartbeats 2000000 in
theorem unused_c (v1 : Value) (cells sum : Int) (a' : Option Addr) (n' c' : Nat) (g : List Int) (w : World) (h' : IC w a' n' g) (hn : n' ≤ 256) (hg : ∀ k, k < n' → 0 ≤ g[k]?.getD 0 ∧ g[k]?.getD 0 ≤ 256) :
    Calls Try.prog 37 #[.agg #[.int .i64 cells, v1, .int .i64 sum, .slice a' n' c']] w fun e w' => ∃ v, e = .returned v ∧ w'.ownsRow w.heap.size 3 1 v (unusedL g).length ((unusedL g).map (Value.int .i64)) ∧ Below w.heap.size w w' := by
  have hm' := h'.small
  have HG := Go.Lib.hid hg
  clear hg
  obtain ⟨i0, hi, hz0, hz1, hz2⟩ := info_parts infoInt
  go_enter Try.func37, Try.ntmps37
  go_wp2
  have hsz : w.heap.size < (w.alloc (.cells #[.int .i64 cells, v1, .int .i64 sum, .slice a' n' c'] 27)).heap.size := by simp
  have hszE : (w.alloc (.cells #[.int .i64 cells, v1, .int .i64 sum, .slice a' n' c'] 27)).heap.size = w.heap.size + 1 := by simp
  have hB : Below w.heap.size w (w.alloc (.cells #[.int .i64 cells, v1, .int .i64 sum, .slice a' n' c'] 27)) := (Below.refl _ _).alloc (Nat.le_refl _) _
  have x0 : (w.alloc (.cells #[.int .i64 cells, v1, .int .i64 sum, .slice a' n' c'] 27)).cell? ⟨w.heap.size, 0, none⟩ = some (.int .i64 cells) := (box_cells w #[.int .i64 cells, v1, .int .i64 sum, .slice a' n' c'] 27 0).trans rfl
  have x1 : (w.alloc (.cells #[.int .i64 cells, v1, .int .i64 sum, .slice a' n' c'] 27)).cell? ⟨w.heap.size, 1, none⟩ = some (v1) := (box_cells w #[.int .i64 cells, v1, .int .i64 sum, .slice a' n' c'] 27 1).trans rfl
  have x2 : (w.alloc (.cells #[.int .i64 cells, v1, .int .i64 sum, .slice a' n' c'] 27)).cell? ⟨w.heap.size, 2, none⟩ = some (.int .i64 sum) := (box_cells w #[.int .i64 cells, v1, .int .i64 sum, .slice a' n' c'] 27 2).trans rfl
  have x3 : (w.alloc (.cells #[.int .i64 cells, v1, .int .i64 sum, .slice a' n' c'] 27)).cell? ⟨w.heap.size, 3, none⟩ = some (.slice a' n' c') := (box_cells w #[.int .i64 cells, v1, .int .i64 sum, .slice a' n' c'] 27 3).trans rfl
  generalize (w.alloc (.cells #[.int .i64 cells, v1, .int .i64 sum, .slice a' n' c'] 27)) = W0 at hsz hszE hB x0 x1 x2 x3 ⊢
  have h0 := h'.mono hB
  clear x0 x1 x2
  have hset : SetC (W0.alloc (.cells #[.int .u64 0, .int .u64 0, .int .u64 0, .int .u64 0] 68)) W0.heap.size 0 (maskL (g.take 0)) := by
    intro q hq
    have e : word (maskL (g.take 0)) q = 0 := by simp [maskL, word]
    rw [e, World.cell?_alloc_new]
    match q, hq with
    | 0, _ => rfl
    | 1, _ => rfl
    | 2, _ => rfl
    | 3, _ => rfl
  have hfz : ∀ q, q < 4 → (W0.alloc (.cells #[.int .u64 0, .int .u64 0, .int .u64 0, .int .u64 0] 68)).frozen? ⟨W0.heap.size, 0 + q, none⟩ = false := by
    intro q _; simp
  have hbw : Below W0.heap.size W0 (W0.alloc (.cells #[.int .u64 0, .int .u64 0, .int .u64 0, .int .u64 0] 68)) := (Below.refl _ W0).alloc (by simp) _
  have hszw : W0.heap.size + 1 = (W0.alloc (.cells #[.int .u64 0, .int .u64 0, .int .u64 0, .int .u64 0] 68)).heap.size := by simp
  rw [hszE] at hset hfz hbw hszw
  generalize (W0.alloc (.cells #[.int .u64 0, .int .u64 0, .int .u64 0, .int .u64 0] 68)) = W1 at hset hfz hbw hszw ⊢
  have X3 : W1.cell? ⟨w.heap.size, 3, none⟩ = some (.slice a' n' c') := ((bcell (hszE ▸ hbw)).1 _ _ hsz).trans x3
  go_loopw [5, 11] (fun _ i wr => ∃ k : Nat, k ≤ n' ∧ i = .int .i64 k ∧ SetC wr (w.heap.size + 1) 0 (maskL (g.take k)) ∧ (∀ q, q < 4 → wr.frozen? ⟨w.heap.size + 1, 0 + q, none⟩ = false) ∧ Below (w.heap.size + 1) W0 wr ∧ w.heap.size + 1 < wr.heap.size) (fun _ i _ => n' - (intOf i).toNat)
  case atStart => exact ⟨0, by omega, rfl, hset, hfz, hbw, by omega⟩
  case round =>
    clear hset hfz hbw hszw X3
    obtain ⟨k, hk, rfl, hset, hfz, hbr, hsr⟩ := hrel
    by_cases hlt : k < n'
    · obtain ⟨b, off, rfl, hb, hc⟩ := (h0.mono (hszE ▸ hbr)).2 k hlt
      have hx := HG.out k hlt
      have htk : g.take (k + 1) = g.take k ++ [g[k]?.getD 0] := take_snoc _ _ _ (by have := h0.len; omega)
      generalize g[k]?.getD 0 = x at hx hc htk
      go_wp2_with (go_at_call 38; refine (sput_c (w.heap.size + 1) 0 (maskL (g.take k)) x wr hset (by omega) (by omega) (by omega) hfz).mono ?_; rintro _ w1 ⟨rfl, hp⟩)
      · have hx0 : 0 < x := by go_num
        go_wp2
        go_roundw
        case rel =>
          refine ⟨k + 1, by omega, by go_num, ?_, fun q hq => (hp.frozen _).trans (hfz q hq), hbr.trans (hp.below.mono (Nat.le_refl _)), by have := hp.below.size; have := hp.size; omega⟩
          rw [htk, maskL_snoc, if_pos hx0]
          exact PutW.set hset hp
        case measure => simp [intOf]; omega
      · have hx0 : ¬ 0 < x := by go_num
        go_roundw
        case rel =>
          refine ⟨k + 1, by omega, by go_num, ?_, hfz, hbr, hsr⟩
          rw [htk, maskL_snoc, if_neg hx0]
          exact hset
        case measure => simp [intOf]; omega
    · have e : k = n' := by omega
      subst e
      have hl := h'.len
      have hM : g.take k = g := by rw [← hl]; exact List.take_length
      rw [hM] at hset
      clear hM hfz
      have X3 : wr.cell? ⟨w.heap.size, 3, none⟩ = some (.slice a' k c') := ((bcell (hszE ▸ hbr)).1 _ _ hsz).trans x3
      obtain ⟨wo, ho⟩ : ∃ wo : World, wo = wr := ⟨_, rfl⟩
      rw [← ho] at hset hbr hsr
      subst ho
      go_wp2
      clear X3
      go_loopw [6, 7, 23] (fun v _ i wr => ∃ j : Nat, j ≤ k ∧ i = .int .i64 j ∧ wr.ownsRow wo.heap.size 3 1 v (unusedTo g j).length ((unusedTo g j).map (Value.int .i64)) ∧ Below wo.heap.size wo wr) (fun _ _ i _ => k - (intOf i).toNat)
      case atStart => exact ⟨0, by omega, rfl, World.ownsRow_nil _ _ _ _, Below.refl _ _⟩
      case round =>
        obtain ⟨j, hj, rfl, hown, hb2⟩ := hrel
        have hset2 := hset.mono hb2 hsr
        by_cases hlt : j < k
        · have hlen := unusedTo_len g j
          have hT : (maskL g).testBit (((j : Int) + 1).toNat - 1) = hasB g ((j : Int) + 1) := by
            rw [show ((j : Int) + 1).toNat - 1 = j from by omega]; exact testBit_maskL g j
          have HC := shas_c (w.heap.size + 1) 0 (maskL g) ((j : Int) + 1) wr hset2 (by omega) (by omega)
          rw [hT] at HC
          have HC' := Go.Lib.hid HC
          clear HC hT hset2
          go_wp2_with (first | (go_at_call 48; refine HC'.out.mono ?_; rintro _ w1 ⟨rfl, rfl⟩) | (at_builtin; refine wpList_append_own _ rfl _ _ 25 rfl wo.heap.size 3 i0 (.int .i64 0) 1 8 Try.underlying25 hi hz0 hz1 hz2 rfl (by decide) _ _ _ rfl (hown.alloc _) ⟨wr.heap.size, 0, none⟩ 1 1 [.int .i64 ((j : Int) + 1)] rfl rfl (cell_one_new _ _ _) (by simp [Value.oneCell']) (by unfold maxLen; omega) (by omega) (by have := hb2.size; simp; omega) ?_))
          · intro v' w1 hown' hgrow _
            have hq : (!hasB g ((j : Int) + 1)) = true := by assumption
            have he : hasB g ((j : Int) + 1) = false := by simpa using hq
            have hb1 : Below wo.heap.size wo w1 := (hb2.alloc hb2.size _).grown hgrow (by simp; have := hb2.size; omega) (fun q e => (hown.lt q e).1)
            have hown2 : w1.ownsRow wo.heap.size 3 1 v' (unusedTo g (j + 1)).length ((unusedTo g (j + 1)).map (Value.int .i64)) := by
              rw [unusedTo_hit he]; simpa using hown'
            clear hown' hgrow hown
            go_wp2
            go_roundw
            case rel => exact ⟨j + 1, by omega, by go_num, hown2, hb1⟩
            case measure => simp [intOf]; omega
          · have hq : (!hasB g ((j : Int) + 1)) = false := by assumption
            have he : hasB g ((j : Int) + 1) = true := by simpa using hq
            go_roundw
            case rel => exact ⟨j + 1, by omega, by go_num, by rw [unusedTo_miss he]; exact hown, hb2⟩
            case measure => simp [intOf]; omega
        · have e : j = k := by omega
          subst e
          go_wp2
          go_ret
          refine ⟨_, rfl, ?_, hB.trans ((hbr.mono (by omega)).trans (hb2.mono (by omega)))⟩
          rw [unusedL, hl]
          exact owns_base hown (by omega)

end Go.Proofs.Ytcblpobiefmjmaa
