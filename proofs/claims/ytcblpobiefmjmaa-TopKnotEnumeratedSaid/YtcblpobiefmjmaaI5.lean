/- Rows that a caller collects; few. -/
import Derived.Test.YtcblpobiefmjmaaI4
import Derived.Maps.OwnIn
import Derived.Maps.AppendAt
namespace Go.Proofs.Ytcblpobiefmjmaa
open Go Go.RowKit Go.Shelf
attribute [local go_sem] over_cell
attribute [local go_sem] Oper.semAt_some

/-- The slice v holds the rows of pre, each in memory of its own from L on. -/
def RowsI (W : World) (M : Nat → Prop) (L : Nat) (v : Value) (pre : List (Value × List Int)) : Prop :=
  W.ownsRow L 25 1 v pre.length (pre.map Prod.fst) ∧ (∀ k, v.ownBlock = some k → ¬ M k) ∧
    ∀ x, x ∈ pre → W.ownsRow L 3 1 x.1 x.2.length (x.2.map (Value.int .i64)) ∧ ∀ k, x.1.ownBlock = some k → ¬ M k ∧ v.ownBlock ≠ some k

theorem RowsI.nil (W : World) (M : Nat → Prop) (L : Nat) : RowsI W M L (.slice none 0 0) [] :=
  ⟨World.ownsRow_nil W L _ 1, fun _ e => (by cases e), fun _ e => (by cases e)⟩

theorem RowsI.keep {W W' : World} {M M' : Nat → Prop} {L L' : Nat} {v : Value} {pre : List (Value × List Int)} (h : RowsI W M L v pre) (hs : StaysL L' M W W') (hn : ∀ k, M' k → M k ∨ W.heap.size ≤ k) : RowsI W' M' L v pre :=
  ⟨hs.owns h.1 h.2.1, fun k e hm => (hn k hm).elim (h.2.1 k e) (fun h2 => by have := (h.1.lt k e).2; omega),
    fun x hx => ⟨hs.owns (h.2.2 x hx).1 (fun k e => ((h.2.2 x hx).2 k e).1), fun k e => ⟨fun hm => (hn k hm).elim ((h.2.2 x hx).2 k e).1 (fun h2 => by have := ((h.2.2 x hx).1.lt k e).2; omega), ((h.2.2 x hx).2 k e).2⟩⟩⟩

theorem stable_rows {L L' : Nat} (v : Value) : StableL L' (fun (pre : List (Value × List Int)) M W => RowsI W M L v pre) :=
  fun _ _ _ _ _ h hs hn => h.keep hs hn

theorem RowsI.setCell {W : World} {M : Nat → Prop} {L : Nat} {v : Value} {pre : List (Value × List Int)} (h : RowsI W M L v pre) {b i : Nat} (hb : b < L) (u : Value) : RowsI (W.setCell ⟨b, i, none⟩ u) M L v pre :=
  ⟨ownsRow_setCell_other h.1 (a := ⟨b, i, none⟩) (fun e => by have := (h.1.lt b e).1; omega) u, h.2.1,
    fun x hx => ⟨ownsRow_setCell_other (h.2.2 x hx).1 (a := ⟨b, i, none⟩) (fun e => by have := ((h.2.2 x hx).1.lt b e).1; omega) u, (h.2.2 x hx).2⟩⟩

/-- One row more. -/
theorem RowsI.append {W W2 : World} {M : Nat → Prop} {L : Nat} {v v' : Value} {pre : List (Value × List Int)} {x : Value × List Int} (h : RowsI W M L v pre) (hM : ∀ k, M k → k < W.heap.size)
    (hx : W.ownsRow L 3 1 x.1 x.2.length (x.2.map (Value.int .i64))) (hxm : ∀ k, x.1.ownBlock = some k → ¬ M k ∧ v.ownBlock ≠ some k)
    (hs : Stays (fun k => v.ownBlock = some k) W W2) (hown : W2.ownsRow L 25 1 v' (pre.length + 1) (pre.map Prod.fst ++ [x.1])) (hnew : ∀ k, v'.ownBlock = some k → v.ownBlock = some k ∨ W.heap.size ≤ k) : RowsI W2 M L v' (pre ++ [x]) := by
  have hold : ∀ y, y ∈ pre ++ [x] → W.ownsRow L 3 1 y.1 y.2.length (y.2.map (Value.int .i64)) ∧ ∀ k, y.1.ownBlock = some k → ¬ M k ∧ v.ownBlock ≠ some k := by
    intro y hy
    rcases List.mem_append.1 hy with hy | hy
    · exact h.2.2 y hy
    · rw [List.mem_singleton.1 hy]; exact ⟨hx, hxm⟩
  refine ⟨by rw [List.length_append, List.map_append]; exact hown, fun k e hm => ?_, fun y hy => ⟨owns_keep (hold y hy).1 (fun k e hlt => hs.block k hlt ((hold y hy).2 k e).2), fun k e => ⟨((hold y hy).2 k e).1, fun e2 => ?_⟩⟩⟩
  · rcases hnew k e with e2 | e2
    · exact h.2.1 k e2 hm
    · have := hM _ hm; omega
  · rcases hnew k e2 with e3 | e3
    · exact ((hold y hy).2 k e).2 e3
    · have := ((hold y hy).1.lt _ e).2
      omega

theorem Stays.q {S : Nat → Prop} {W W' : World} {b : Nat} {o : Obj} (hs : Stays S W W') (hq : W.heap[b]? = some o) (hb : ¬ S b) : W'.heap[b]? = some o := (hs.block b (q_lt hq) hb).trans hq

theorem grow_stays {W W2 : World} {o : Obj} {row : Option Nat} (hg : (W.alloc o).grownBy W2 row) : Stays (fun k => row = some k) W W2 :=
  (Below.stays ((Below.refl _ W).alloc (Nat.le_refl _) _) _).trans (Stays.grown (S := fun k => row = some k) hg (fun _ e => e)) (fun _ e => .inl e)

/-- Rows as lists of numbers. -/
theorem RowsI.rc {W : World} {M : Nat → Prop} {L : Nat} {v : Value} {pre : List (Value × List Int)} (h : RowsI W M L v pre) (hn : pre.length ≤ 17592186044416) (hm : ∀ x, x ∈ pre → x.2.length ≤ 17592186044416) :
    ∃ a c, v = .slice a pre.length c ∧ RC W a pre.length (pre.map Prod.snd) ∧ pre.length ≤ c := by
  obtain ⟨a, c, rfl⟩ := owns_shape h.1
  refine ⟨a, c, rfl, ⟨⟨by rw [List.length_map], hn⟩, fun k hk => ?_⟩, ?_⟩
  · obtain ⟨g, cap, x, hv, hx, hc, _, hg, _⟩ := owns_free (owns_base h.1 (Nat.zero_le _)) k hk
    simp only [Value.slice.injEq] at hv
    obtain ⟨rfl, _, _⟩ := hv
    have hx2 : x = (pre[k]'hk).1 := by
      rw [List.getElem?_map, List.getElem?_eq_getElem hk] at hx
      simpa using hx.symm
    have hrow := (h.2.2 _ (List.getElem_mem hk)).1
    obtain ⟨a9, c9, he9⟩ := owns_shape hrow
    rw [he9] at hrow
    have hic := IC.of_owns hrow (hm _ (List.getElem_mem hk))
    refine ⟨g, 0, a9, _, c9, rfl, hg, by rw [Nat.zero_add, hc, hx2, he9], ?_, hic.2⟩
    rw [List.getElem?_map, List.getElem?_eq_getElem hk]
    exact hic.1
  · rcases h.1.2 with ⟨e, e2⟩ | ⟨_, _, _, e, _, _, e3, _⟩
    · simp only [Value.slice.injEq] at e; omega
    · simp only [Value.slice.injEq] at e; omega

theorem owns_cells {W : World} {base : Nat} {e : TypeId} {size : Nat} {v : Value} {n : Nat} {xs : List Value} (h : W.ownsRow base e size v n xs) {j : Nat} {o : Obj} (hj : v.ownBlock = some j) (ho : W.heap[j]? = some o) : o.isCells = true := by
  rcases h.2 with ⟨e2, _⟩ | ⟨g, cap, cur, e2, _, hg, _⟩
  · rw [e2] at hj; cases hj
  · rw [e2] at hj; cases hj
    rw [hg] at ho; cases ho; rfl

theorem visit_len {C : Cst} : ∀ (k : Nat) (P f : List Int), f ∈ visit C k P → f.length = C.g.length
  | 0, _, _, h => by simp [visit] at h
  | k + 1, P, f, h => by
    simp only [visit] at h
    cases hn : nextP C P with
    | none => rw [hn] at h; simp at h
    | some P' =>
      rw [hn] at h
      simp only at h
      rcases List.mem_append.1 h with h | h
      · split at h
        · rw [List.mem_singleton.1 h]; exact fillP_len _ _
        · cases h
      · exact visit_len k P' f h

theorem sols_len {ls : List (List Int)} {sum : Int} {g P f : List Int} (h : f ∈ solsL ls sum g P) : f.length = g.length := by
  unfold solsL sols at h
  split at h
  · split at h
    · cases h
    · rw [List.mem_singleton.1 h]; exact fillP_len _ _
  · exact visit_len _ _ _ h

def FewI (B : Nat) (w : World) (L b3 b5 : Nat) (most : Int) (pre : List (Value × List Int)) (M : Nat → Prop) (W : World) : Prop :=
  OldI B w W M ∧ BoxI W M b3 #[.int .i64 most] 3 ∧ (∃ v, BoxI W M b5 #[v] 22 ∧ RowsI W M L v pre) ∧ L ≤ W.heap.size ∧ (pre.length : Int) < most
theorem fewI_stable {B : Nat} {w : World} {L b3 b5 : Nat} {most : Int} {L' : Nat} (h1 : B ≤ L') (h2 : B ≤ w.heap.size) : StableL L' (FewI B w L b3 b5 most) :=
  stable_and (stable_old h1 h2) (stable_and (stable_box _ _ _) (stable_and (stable_ex fun v => stable_and (stable_box _ _ _) (stable_rows v)) (stable_and stable_size (stable_pure _))))
def FewX (B : Nat) (w : World) (L b5 : Nat) (most : Int) (c : Code) (pre : List (Value × List Int)) (M : Nat → Prop) (W : World) : Prop :=
  c = .exit 0 ∧ OldI B w W M ∧ (∃ v, BoxI W M b5 #[v] 22 ∧ RowsI W M L v pre) ∧ L ≤ W.heap.size ∧ (pre.length : Int) = most
theorem fewX_stable {B : Nat} {w : World} {L b5 : Nat} {most : Int} {L' : Nat} (h1 : B ≤ L') (h2 : B ≤ w.heap.size) (c : Code) : StableL L' (FewX B w L b5 most c) :=
  stable_and (stable_pure _) (stable_and (stable_old h1 h2) (stable_and (stable_ex fun v => stable_and (stable_box _ _ _) (stable_rows v)) (stable_and stable_size (stable_pure _))))

set_option maxRecDepth 100000 in
set_option maxHeartbeats 2000000 in
theorem few_c (b bx : Nat) (Im : Nat → Prop) (C : Cst) (vf vp : Value) (P : List Int) (w : World) (h : SR w b Im C vf vp P) (he : Even C) (hx : w.cell? ⟨bx, 0, none⟩ = some (.pointer (some ⟨b, 0, none⟩))) (hbx : bx < w.heap.size) (hnb : ¬ Mut b vf vp bx)
    (B : Nat) (hB : B ≤ w.heap.size) (hMB : ∀ k, Mut b vf vp k → B ≤ k) (most : Int) (hm1 : 1 ≤ most) (hm2 : most ≤ 1000000) :
    Calls Try.prog 19 #[solV bx, .int .i64 most] w fun e w' => ∃ a n c, e = .returned (.slice a n c) ∧ RC w' a n ((solsL C.ls C.sum C.g P).take most.toNat) ∧ n ≤ c ∧ Below B w w' := by
  refine calls_of_marks Try.func19 rfl ?_
  simp only [Try.ntmps19, List.size_toArray, List.length_cons, List.length_nil, Nat.reduceAdd, Nat.reduceSub, Array.replicate_succ, Array.replicate_zero, List.push_toArray, List.append_toArray, List.nil_append, List.cons_append]
  have H := Go.Lib.hid h
  have HX := Go.Lib.hid hx
  have HE := Go.Lib.hid he
  clear h hx he
  go_wp2_with fail
  have fsz : ((w.alloc (.cells #[.int .i64 most] 3)).alloc (.cells #[.slice none 0 0] 22)).heap.size = w.heap.size + 2 := by simp only [World.size_alloc] <;> omega
  have fB : Below w.heap.size w ((w.alloc (.cells #[.int .i64 most] 3)).alloc (.cells #[.slice none 0 0] 22)) := ((Below.refl _ _).alloc (Nat.le_refl _) _).alloc (by simp only [World.size_alloc]; omega) _
  have fq0 : ((w.alloc (.cells #[.int .i64 most] 3)).alloc (.cells #[.slice none 0 0] 22)).heap[w.heap.size]? = some (.cells #[.int .i64 most] 3 (0, 0)) := by have h := World.alloc_heap_new w (.cells #[.int .i64 most] 3); exact (Below.heap_alloc _ _ _ (by simp only [World.size_alloc]; omega)).trans (h)
  have fq1 : ((w.alloc (.cells #[.int .i64 most] 3)).alloc (.cells #[.slice none 0 0] 22)).heap[w.heap.size + 1]? = some (.cells #[.slice none 0 0] 22 (0, 0)) := by have h := World.alloc_heap_new (w.alloc (.cells #[.int .i64 most] 3)) (.cells #[.slice none 0 0] 22); simp only [World.size_alloc] at h; exact h
  generalize ((w.alloc (.cells #[.int .i64 most] 3)).alloc (.cells #[.slice none 0 0] 22)) = W0 at fsz fB fq0 fq1 ⊢
  have HSZ := Go.Lib.hid fsz
  have hsz : w.heap.size + 1 < W0.heap.size := by omega
  clear fsz
  have hge : ∀ k, Mut b vf vp k → k < w.heap.size := fun k hk => H.out.mutLt hk
  obtain ⟨i0, hi, hz0, hz1, hz2⟩ := info_parts infoRow
  refine wp_range_sol (H.out.below fB) HE.out (((bcell fB).1 _ _ hbx).trans HX.out) (by omega) hnb rfl
    (FewI B w W0.heap.size w.heap.size (w.heap.size + 1) most) (FewX B w W0.heap.size (w.heap.size + 1) most) ?hI ?hIx ?h0 ?act ?assign ?body ?done ?stop
  case hI => exact fewI_stable (by omega) hB
  case hIx => exact fewX_stable (by omega) hB
  case h0 => exact ⟨⟨fB.mono hB, hMB⟩, ⟨fq0, fun e => by have := hge _ e; omega⟩, ⟨_, ⟨fq1, fun e => by have := hge _ e; omega⟩, RowsI.nil _ _ _⟩, Nat.le_refl _, by simp; omega⟩
  case assign =>
    intro l x W K hK
    gi_wp2
    exact hK
  case body =>
    rintro l pre ⟨xv, xl⟩ M W4 W hI0 hst hnew hgiv
    obtain ⟨⟨hBB4, hM⟩, ⟨q34, m3⟩, ⟨v, ⟨q54, m5⟩, hrow4⟩, hsz4, hle⟩ := hI0
    have q3 := hst.at q34 (fun e => e)
    have q5 := hst.at q54 (fun e => e)
    have hrow := hrow4.keep (hst.mono (M' := M) (fun _ e => e.elim)) (fun _ e => .inl e)
    have hsz2 := Nat.le_trans hsz4 hst.size
    have hBB : Below B w W := hst.below hBB4 (by omega) hB (fun _ e => e.elim)
    have hv4 : ∀ k, v.ownBlock = some k → k < W4.heap.size := fun k e => (hrow4.1.lt k e).2
    clear hrow4 q34 q54
    obtain ⟨ax, cx, hxv⟩ := owns_shape hgiv.1
    dsimp only at hxv
    subst hxv
    obtain ⟨av, cv, rfl⟩ := owns_shape hrow.1
    have c3 := q_cell q3 0
    have c5 := q_cell q5 0
    have f5 := q_free q5 0
    have hv3 : ¬ (Value.slice av pre.length cv).ownBlock = some w.heap.size := fun e => by have := (hrow.1.lt _ e).1; omega
    have hv5 : ¬ (Value.slice av pre.length cv).ownBlock = some (w.heap.size + 1) := fun e => by have := (hrow.1.lt _ e).1; omega
    have hxn : ∀ k, (Value.slice ax xl.length cx).ownBlock = some k → ¬ M k ∧ (Value.slice av pre.length cv).ownBlock ≠ some k := fun k e => ⟨fun e2 => hgiv.2.1 k e (.inr (.inl e2)), fun e2 => by have h1 := hv4 k e2; have h2 := hnew k e; omega⟩
    have hfin : ∀ w1 v', (W.alloc (.cells #[.slice ax xl.length cx] 25)).grownBy w1 (Value.slice av pre.length cv).ownBlock → w1.ownsRow W0.heap.size 25 1 v' (pre.length + 1) (pre.map Prod.fst ++ [.slice ax xl.length cx]) → (v'.ownBlock = (Value.slice av pre.length cv).ownBlock ∨ v'.ownBlock = some (W.alloc (.cells #[.slice ax xl.length cx] 25)).heap.size) →
        KeepsOthers W (w1.setCell ⟨w.heap.size + 1, 0, none⟩ v') ∧ KpS Im bx M W (w1.setCell ⟨w.heap.size + 1, 0, none⟩ v') ∧ OldI B w (w1.setCell ⟨w.heap.size + 1, 0, none⟩ v') M ∧ BoxI (w1.setCell ⟨w.heap.size + 1, 0, none⟩ v') M w.heap.size #[.int .i64 most] 3 ∧ BoxI (w1.setCell ⟨w.heap.size + 1, 0, none⟩ v') M (w.heap.size + 1) #[v'] 22 ∧ RowsI (w1.setCell ⟨w.heap.size + 1, 0, none⟩ v') M W0.heap.size v' (pre ++ [(.slice ax xl.length cx, xl)]) ∧ W0.heap.size ≤ (w1.setCell ⟨w.heap.size + 1, 0, none⟩ v').heap.size := by
      intro w1 v' hgrow hown' hnew'
      have hs2 := grow_stays hgrow
      have q3' := hs2.q q3 hv3
      have q5' := hs2.q q5 hv5
      have hr := hrow.append hgiv.2.2 hgiv.1 hxn hs2 hown' (fun k e => hnew'.imp (fun e2 => by rw [← e2]; exact e) (fun e2 => by rw [e2] at e; cases e; simp))
      have hset : ∀ k, k < w1.heap.size → k ≠ w.heap.size + 1 → (w1.setCell ⟨w.heap.size + 1, 0, none⟩ v').heap[k]? = w1.heap[k]? := fun k _ hk => Below.heap_setCell _ _ _ _ hk
      have hvB : ∀ k, (Value.slice av pre.length cv).ownBlock = some k → W0.heap.size ≤ k := fun k e => (hrow.1.lt k e).1
      refine ⟨?_, ?_, ⟨?_, hM⟩, ⟨q_other q3' (by omega) _, m3⟩, ⟨q_set q5' _, m5⟩, hr.setCell (by omega) _, ?_⟩
      · refine ((KeepsOthers.alloc W _).trans (KeepsOthers.of_grownBy hgrow ?_)).trans (KeepsOthers.setCell _ _ _)
        intro j o e ho
        exact owns_cells (hrow.1.alloc _) e ho
      · refine ⟨?_, fun k hk hb => (hset k (Nat.lt_of_lt_of_le hk hs2.size) ?_).trans (hs2.block k hk ?_)⟩
        · have := hs2.size
          have h2 : (w1.setCell ⟨w.heap.size + 1, 0, none⟩ v').heap.size = w1.heap.size := by simp [World.setCell]
          omega
        · rintro rfl
          rcases hb with hb | hb | hb
          · have := H.out.imLt _ hb; omega
          · exact m5 hb
          · omega
        · intro e
          have := hvB k e
          rcases hb with hb | hb | hb
          · have := H.out.imLt _ hb; omega
          · exact hrow.2.1 k e hb
          · omega
      · refine Below.setCell (p := ⟨w.heap.size + 1, 0, none⟩) ?_ (by show B ≤ w.heap.size + 1; omega) _
        exact hBB.trans (hs2.below (by have := hBB.size; omega) (fun k e => by have := hvB k e; omega))
      · have := hs2.size
        have h2 : (w1.setCell ⟨w.heap.size + 1, 0, none⟩ v').heap.size = w1.heap.size := by simp [World.setCell]
        omega
    by_cases hb : (pre.length : Int) + 1 = most
    · have hb1 : (((pre.length : Int) + 1) == most) = true := by simpa using hb
      have HB := Go.Lib.hid hb
      have HFIN := Go.Lib.hid hfin
      clear hb hfin
      gi_wp2_with (gi_at_builtin; refine wpListIn_append_own_at _ rfl _ _ 22 rfl W0.heap.size 25 i0 (.slice none 0 0) 1 24 Try.underlying22 hi hz0 hz1 hz2 rfl (by decide) _ _ _ rfl (hrow.1.alloc _) ⟨W.heap.size, 0, none⟩ 1 1 [.slice ax xl.length cx] rfl rfl (cell_one_new _ _ _) (by simp [Value.oneCell']) (by unfold maxLen; omega) (by omega) (by simp; omega) ?_; intro v' w1 hown' hgrow _ hnew'; obtain ⟨av', cv', rfl⟩ := owns_shape hown'; have hs2 := grow_stays hgrow; have q3' := hs2.q q3 hv3; have q5' := hs2.q q5 hv5; have c3' := q_cell q3' 0; have c5' := q_cell q5' 0; have f5' := q_free q5' 0)
      obtain ⟨a1, a2, a3, a4, a5, a6, a7⟩ := HFIN.out _ _ hgrow hown' hnew'
      exact ⟨a1, a2, rfl, a3, ⟨_, a5, a6⟩, a7, by have := HB.out; simp; omega⟩
    · have hb1 : (((pre.length : Int) + 1) == most) = false := by simpa using hb
      have HB := Go.Lib.hid hb
      have HFIN := Go.Lib.hid hfin
      clear hb hfin
      gi_wp2_with (gi_at_builtin; refine wpListIn_append_own_at _ rfl _ _ 22 rfl W0.heap.size 25 i0 (.slice none 0 0) 1 24 Try.underlying22 hi hz0 hz1 hz2 rfl (by decide) _ _ _ rfl (hrow.1.alloc _) ⟨W.heap.size, 0, none⟩ 1 1 [.slice ax xl.length cx] rfl rfl (cell_one_new _ _ _) (by simp [Value.oneCell']) (by unfold maxLen; omega) (by omega) (by simp; omega) ?_; intro v' w1 hown' hgrow _ hnew'; obtain ⟨av', cv', rfl⟩ := owns_shape hown'; have hs2 := grow_stays hgrow; have q3' := hs2.q q3 hv3; have q5' := hs2.q q5 hv5; have c3' := q_cell q3' 0; have c5' := q_cell q5' 0; have f5' := q_free q5' 0)
      obtain ⟨a1, a2, a3, a4, a5, a6, a7⟩ := HFIN.out _ _ hgrow hown' hnew'
      exact ⟨a1, a2, a3, a4, ⟨_, a5, a6⟩, a7, by have := HB.out; simp; omega⟩
  case done =>
    rintro D xs M W hD hS ⟨⟨hBB, hM⟩, ⟨q3, m3⟩, ⟨v, ⟨q5, m5⟩, hrow⟩, hsz2, hle⟩ hK
    have hlen : xs.length ≤ 17592186044416 := by omega
    obtain ⟨av, cv, rfl, hrc, hcap⟩ := (hrow.keep (StaysL.putObj (L := 0) M (.deferred none) (Nat.zero_le _) hK rfl) (fun _ e => .inl e)).rc hlen (fun x hx => by
      have h1 : x.2 ∈ solsL C.ls C.sum C.g P := by rw [← hS]; exact List.mem_map.2 ⟨x, hx, rfl⟩
      have h2 := sols_len h1
      have h3 := H.out.fine.len
      have h4 := H.out.fine.most
      omega)
    have c5 := q_cell q5 0
    have HS := Go.Lib.hid hS
    clear hS
    go_wp2
    refine marks_one (v := .slice av xs.length cv) hK rfl (by simp [results, Try.f19, go_sem]) ⟨av, xs.length, cv, rfl, ?_, hcap, putD_below hBB (by omega)⟩
    rw [← HS.out, List.take_of_length_le (by simp; omega)]
    exact hrc
  case stop =>
    rintro D c pre M W hD hS _ ⟨rfl, ⟨hBB, hM⟩, ⟨v, ⟨q5, m5⟩, hrow⟩, hsz2, hle⟩ hK
    have hlen : pre.length ≤ 17592186044416 := by omega
    obtain ⟨av, cv, rfl, hrc, hcap⟩ := (hrow.keep (StaysL.putObj (L := 0) M (.deferred none) (Nat.zero_le _) hK rfl) (fun _ e => .inl e)).rc hlen (fun x hx => by
      have h1 : x.2 ∈ solsL C.ls C.sum C.g P := hS.subset (List.mem_map.2 ⟨x, hx, rfl⟩)
      have h2 := sols_len h1
      have h3 := H.out.fine.len
      have h4 := H.out.fine.most
      omega)
    have c5 := q_cell q5 0
    have HS := Go.Lib.hid hS
    have HL := Go.Lib.hid hle
    clear hS hle
    go_wp2
    refine marks_one (v := .slice av pre.length cv) hK rfl (by simp [results, Try.f19, go_sem]) ⟨av, pre.length, cv, rfl, ?_, hcap, putD_below hBB (by omega)⟩
    have h1 := List.prefix_iff_eq_take.1 HS.out
    rw [List.length_map, show pre.length = most.toNat from by have := HL.out; omega] at h1
    rw [← h1]
    exact hrc

end Go.Proofs.Ytcblpobiefmjmaa
