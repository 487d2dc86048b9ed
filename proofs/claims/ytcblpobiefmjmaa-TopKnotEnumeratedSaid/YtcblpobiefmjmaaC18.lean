/- Contracts: push and pop of a search. -/
import Derived.Test.YtcblpobiefmjmaaC17
namespace Go.Proofs.Ytcblpobiefmjmaa
open Go Go.RowKit
attribute [local go_sem] over_cell

/-- What a step of a search hands back. -/
def Stepped (w w' : World) (b : Nat) (Im : Nat → Prop) (C : Cst) (vf vp : Value) (P : List Int) : Prop :=
  ∃ vp', SR w' b Im C vf vp' P ∧ Stays (Mut b vf vp) w w' ∧ ∀ k, vp'.ownBlock = some k → vp.ownBlock = some k ∨ w.heap.size ≤ k

theorem SR.ofl {w : World} {b : Nat} {Im : Nat → Prop} {C : Cst} {vf vp : Value} {P : List Int} (h : SR w b Im C vf vp P) (hl : P.length < C.O.length) :
    ∃ (o bo off : Nat), C.O[P.length]'hl = (o : Int) ∧ o < C.n' ∧ C.ao = some ⟨bo, off, none⟩ ∧ bo < w.heap.size ∧ w.cell? ⟨bo, off + P.length, none⟩ = some (.int .i64 (o : Int)) := by
  have hm := mem_open.1 (show C.O[P.length]'hl ∈ openL C.g from List.getElem_mem hl)
  obtain ⟨bo, off, ha, hb, hc⟩ := h.sure.here.o.2 P.length hl
  have := h.fine.len
  refine ⟨(C.O[P.length]'hl).toNat, bo, off, by omega, by omega, ha, hb, ?_⟩
  rw [hc, List.getElem?_eq_getElem hl, Option.getD_some, Int.toNat_of_nonneg hm.1]

set_option maxRecDepth 100000 in
set_option maxHeartbeats 2000000 in
theorem push_c (b : Nat) (Im : Nat → Prop) (C : Cst) (vf vp : Value) (P : List Int) (x : Int) (w : World) (h : SR w b Im C vf vp P) (hl : P.length < C.O.length) (hx : x ∈ unusedL C.g) (hn : x ∉ P) :
    Calls Try.prog 52 #[.pointer (some ⟨b, 0, none⟩), .int .i64 x] w fun e w' => e = .returned (.tuple #[]) ∧ Stepped w w' b Im C vf vp (P ++ [x]) := by
  have H := Go.Lib.hid h
  have hxu := mem_unused.1 hx
  have hm := h.fine.most
  have hgl := h.fine.len
  obtain ⟨o, bo, off, ho, hon, hao, hbo, hco⟩ := h.ofl hl
  have hfl : (fillP C P).length = C.n' := (fillP_len C P).trans hgl
  obtain ⟨bf, cf, x0, hvf, hx0, hcf, hff, hbf, hcap⟩ := owns_free h.f o (by omega)
  have hF : Hid (fillP C (P ++ [x]) = (fillP C P).set o x) := by
    unfold Hid
    rw [fillP_snoc C P x hl, ho, Int.toNat_natCast]
  have hM : Hid (maskL (leftL C (P ++ [x])) = clearBit (maskL (leftL C P)) (x.toNat - 1)) := left_push C P x hxu.1
  have hOk := Go.Lib.hid (h.ok.push hl hx hn)
  have hlt := h.lt
  have c4 := h.c4
  have c10 := h.c10
  have c11 := h.c11
  have hnf := h.nf bf (by rw [hvf]; rfl)
  obtain ⟨ap, cp, hvp⟩ := owns_shape h.p
  have hp := h.p
  have hf := h.f
  have hset := h.set
  have hfz := h.fz
  have hnp := h.np
  rw [hfl] at hvf hf hcap
  rw [hao] at c4
  have hl1 : (P.length : Int) < (C.O.length : Int) := by omega
  have hl2 : (0 : Int) ≤ (P.length : Int) := by omega
  have ho1 : (o : Int) < (C.n' : Int) := by omega
  have ho2 : (0 : Int) ≤ (o : Int) := by omega
  subst hvf
  -- the world behind the first store
  obtain ⟨W1, hW1⟩ : ∃ W1, W1 = (w.setCell ⟨bf, o, none⟩ (.int .i64 x)).drew := ⟨_, rfl⟩
  have hs1 : Stays (fun k => k = bf) w W1 := by rw [hW1]; exact (Stays.setCell (S := fun k => k = bf) w (p := ⟨bf, o, none⟩) rfl _).drew
  have hsz1 : W1.heap.size = w.heap.size := by rw [hW1]; simp [World.setCell, World.drew]
  have hf1 : W1.ownsRow 0 3 1 (.slice (some ⟨bf, 0, none⟩) C.n' cf) C.n' (((fillP C P).map (Value.int .i64)).set o (.int .i64 x)) := by rw [hW1]; exact owns_set hf o (.int .i64 x)
  have hp1 : W1.ownsRow 0 3 1 vp P.length (P.map (Value.int .i64)) := by rw [hW1]; exact ownsRow_setCell_other hp (a := ⟨bf, o, none⟩) (fun e => (hnp bf e).2.2 rfl) (.int .i64 x)
  have hbb : ¬ b = bf := fun e => hnf.2 e.symm
  have hb1 : b < W1.heap.size := by omega
  have hc1 : ∀ i, W1.cell? ⟨b, i, none⟩ = w.cell? ⟨b, i, none⟩ := fun i => hs1.cell hlt hbb
  have hz1 : ∀ i, W1.frozen? ⟨b, i, none⟩ = w.frozen? ⟨b, i, none⟩ := fun i => hs1.frozen hlt hbb
  have d11 := (hc1 11).trans c11
  have HSZ := Go.Lib.hid hsz1
  clear hsz1
  have HC1 := Go.Lib.hid hc1
  have HZ1 := Go.Lib.hid hz1
  clear hc1 hz1
  obtain ⟨i0, hi, hz0, hzz, hz2⟩ := info_parts infoInt
  have HW1 := Go.Lib.hid hW1
  clear h hnf hW1
  have hvb : ∀ k, (Value.slice ap P.length cp).ownBlock = some k → vp.ownBlock = some k := fun k e => by rw [hvp]; exact e
  have hvb' : ∀ k, vp.ownBlock = some k → (Value.slice ap P.length cp).ownBlock = some k := fun k e => by rw [← hvp]; exact e
  have hp1' := hp1
  rw [hvp] at c11 d11 hp1'
  have hPl : P.length ≤ 256 := by
    have h1 := List.length_filter_le (fun (i : Nat) => C.g[i]?.getD 0 == 0) (List.range C.g.length)
    have h2 : C.O.length ≤ C.g.length := by
      simpa [Cst.O, openL, openTo] using h1
    omega
  go_enter Try.func52, Try.ntmps52
  go_wp2
  refine wp_region_S (fun w' => ∃ u, w' = over (w) u) [17] [(0, 0), (0, 1), (0, 2), (0, 3), (0, 4), (0, 5), (0, 6), (0, 7), (0, 8), (0, 9), (0, 10), (0, 11), (0, 12), (0, 13), (0, 14), (0, 15), (0, 16), (2, 17)] (by kernel_rfl) (by kernel_rfl) (by exact ⟨_, below_over (by repeat (first | assumption | exact Below.refl _ _ | refine keep_drew ?_ | refine keep_alloc ?_ _ | refine keep_trans ?_ (by assumption)))⟩) ?_
  dsimp only [pickOps, nthOp]
  repeat (first | (refine wpS_skip rfl (fun K hK => ?_); go_big_quiet_op; refine hK _ ?_; clear hK K) | (refine wpS_quiet rfl rfl (fun K hK => ?_); go_big_quiet_op; refine hK _ ?_; clear hK K))
  refine wpS_late _ _ _ rfl ?_
  dsimp only [List.map]
  go_wp2
  refine NoPanic.normal ?_
  rw [← HW1.out]
  clear HW1 hcf hff c4 c10 c11 hco
  go_wp2_with (at_builtin; refine wpList_append_own2 _ rfl _ _ 25 rfl 3 i0 (.int .i64 0) 1 8 Try.underlying25 hi hz0 hzz hz2 rfl (by decide) _ _ _ rfl (hp1'.alloc _) ⟨W1.heap.size, 0, none⟩ 1 1 [.int .i64 x] rfl rfl (cell_one_new _ _ _) (by simp [Value.oneCell']) (by unfold maxLen; omega) (by omega) ?_)
  intro v' W2 hown2 hgrow hnew
  obtain ⟨av, cv, rfl⟩ := owns_shape hown2
  have hs2 : Stays (fun k => (Value.slice ap P.length cp).ownBlock = some k) W1 W2 := (Below.stays ((Below.refl _ W1).alloc (Nat.le_refl _) _) _).trans (Stays.grown (S := fun k => (Value.slice ap P.length cp).ownBlock = some k) hgrow (fun k e => e)) (fun i e => .inl e)
  have hbb2 : ¬ (Value.slice ap P.length cp).ownBlock = some b := fun e => (hnp b (hvb b e)).2.1 rfl
  have hvn : ∀ k, (Value.slice av (P.length + 1) cv).ownBlock = some k → vp.ownBlock = some k ∨ W1.heap.size < k := fun k e => (hnew k e).imp (hvb k) (fun h => by omega)
  have hb2 : b < W2.heap.size := Nat.lt_of_lt_of_le hb1 hs2.size
  have e11 : W2.cell? ⟨b, 11, none⟩ = some (.slice ap P.length cp) := (hs2.cell hb1 hbb2).trans d11
  have hz2 : ∀ i, i < 12 → W2.frozen? ⟨b, i, none⟩ = false := fun i hi => (hs2.frozen hb1 hbb2).trans ((HZ1.out i).trans (hfz i hi))
  have hset2 : SetC W2 b 5 (maskL (leftL C P)) := fun q hq => (hs2.cell hb1 hbb2).trans ((HC1.out _).trans (hset q hq))
  have HC2 : Hid (∀ i, W2.cell? ⟨b, i, none⟩ = w.cell? ⟨b, i, none⟩) := fun i => (hs2.cell hb1 hbb2).trans (HC1.out i)
  have f11 := hz2 11 (by omega)
  -- the world behind the second store
  have hc3 : ∀ i, i ≠ 11 → (W2.setCell ⟨b, 11, none⟩ (Value.slice av (P.length + 1) cv)).cell? ⟨b, i, none⟩ = W2.cell? ⟨b, i, none⟩ := fun i hi => World.cell?_setCell_other _ _ _ _ (fun e => by simp only [Addr.mk.injEq, true_and, and_true] at e; exact hi e.symm)
  have h311 : (W2.setCell ⟨b, 11, none⟩ (Value.slice av (P.length + 1) cv)).cell? ⟨b, 11, none⟩ = some (.slice av (P.length + 1) cv) := World.cell?_setCell_same _ _ _ e11
  have hset3 : SetC (W2.setCell ⟨b, 11, none⟩ (Value.slice av (P.length + 1) cv)) b 5 (maskL (leftL C P)) := fun q hq => (hc3 _ (by omega)).trans (hset2 q hq)
  have hz3 : ∀ i, i < 12 → (W2.setCell ⟨b, 11, none⟩ (Value.slice av (P.length + 1) cv)).frozen? ⟨b, i, none⟩ = false := fun i hi => (World.frozen?_setCell _ _ _ _).trans (hz2 i hi)
  have hs3 : Stays (fun k => k = b) W2 (W2.setCell ⟨b, 11, none⟩ (Value.slice av (P.length + 1) cv)) := Stays.setCell (S := fun k => k = b) W2 (p := ⟨b, 11, none⟩) rfl _
  have hb3 : b < (W2.setCell ⟨b, 11, none⟩ (Value.slice av (P.length + 1) cv)).heap.size := Nat.lt_of_lt_of_le hb2 hs3.size
  have HD := Go.Lib.hid (sdrop_c b 5 (maskL (leftL C P)) x _ hset3 hxu.1 (by omega) hb3 (fun q hq => hz3 _ (by omega)))
  have HC3 := Go.Lib.hid hc3
  have H311 := Go.Lib.hid h311
  have HZ3 := Go.Lib.hid hz3
  have HS3 := Go.Lib.hid hs3
  have HSET := Go.Lib.hid hset3
  clear hset2 hz2 hc3 hset3 hz3 hb3 hs3 h311 d11 hnew hgrow
  go_wp2_with (go_at_call 60; refine HD.out.mono ?_; rintro _ W4 ⟨rfl, hp4⟩)
  go_wp2
  go_end0
  have h := H.out
  have hst2 : Stays (fun k => k = b) W2 W4 := HS3.out.trans hp4.stays (fun i e => .inl e)
  have hst1 : Stays (fun k => k = b ∨ (Value.slice ap P.length cp).ownBlock = some k) W1 W4 := (hs2.mono (fun i e => .inr e)).trans hst2 (fun i e => .inl (.inl e))
  have hst : Stays (Mut b (.slice (some ⟨bf, 0, none⟩) C.n' cf) vp) w W4 := (hs1.mono (fun i e => .inr (.inl (by rw [e]; rfl)))).trans hst1 (fun i e => .inl (e.elim .inl (fun e => .inr (.inr (hvb i e)))))
  have hsz := HSZ.out
  have hcell : ∀ i, i ≠ 11 → (i < 5 ∨ 9 ≤ i) → W4.cell? ⟨b, i, none⟩ = w.cell? ⟨b, i, none⟩ := fun i h1 h2 => (hp4.cell i (by omega)).trans ((HC3.out i h1).trans (HC2.out i))
  refine ⟨rfl, _, ?_, hst, fun k e => (hvn k e).imp id (fun h => by omega)⟩
  have hfo := hF.out
  refine { fine := h.fine, ok := hOk.out, imLt := fun k e => Nat.lt_of_lt_of_le (h.imLt k e) hst.size, sure := h.sure.keep hst.size (fun k e => hst.block k (h.imLt k e) ?_), lt := Nat.lt_of_lt_of_le hlt hst.size, nb := h.nb, nf := h.nf, np := ?_, f := ?_, p := ?_,
           c0 := (hcell 0 (by omega) (by omega)).trans h.c0, c1 := (hcell 1 (by omega) (by omega)).trans h.c1, c2 := (hcell 2 (by omega) (by omega)).trans h.c2, c3 := (hcell 3 (by omega) (by omega)).trans h.c3, c4 := (hcell 4 (by omega) (by omega)).trans h.c4,
           set := by rw [hM.out]; exact PutW.set HSET.out hp4, c9 := (hcell 9 (by omega) (by omega)).trans h.c9, c10 := (hcell 10 (by omega) (by omega)).trans h.c10, c11 := (hp4.cell 11 (by omega)).trans H311.out,
           fz := fun i hi => (hp4.frozen _).trans (HZ3.out i hi) }
  · rintro (e2 | e2 | e2)
    · exact h.nb (e2 ▸ e)
    · exact (h.nf k e2).1 e
    · exact (h.np k e2).1 e
  · intro k e
    rcases hvn k e with e2 | e2
    · exact h.np k e2
    · refine ⟨fun e3 => by have := h.imLt k e3; omega, by omega, fun e3 => ?_⟩
      simp only [Value.ownBlock, Option.some.injEq] at e3
      omega
  · rw [hfo, List.length_set, hfl]
    refine owns_keep (w := W1) ?_ (fun k e hlt => hst1.block k hlt ?_)
    · rw [List.map_set]; exact hf1
    · simp only [Value.ownBlock, Option.some.injEq] at e
      subst e
      rintro (e2 | e2)
      · exact hbb e2.symm
      · exact (hnp _ (hvb _ e2)).2.2 rfl
  · rw [List.length_append, List.map_append]
    refine owns_keep hown2 (fun k e hlt => hst2.block k hlt (fun e2 => ?_))
    rcases hvn k e with e3 | e3
    · exact (hnp k e3).2.1 e2
    · omega

end Go.Proofs.Ytcblpobiefmjmaa
