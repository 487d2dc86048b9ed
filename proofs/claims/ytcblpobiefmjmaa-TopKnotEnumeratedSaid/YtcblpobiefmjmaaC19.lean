/- Contracts: pop of a search. -/
import Derived.Test.YtcblpobiefmjmaaC18
namespace Go.Proofs.Ytcblpobiefmjmaa
open Go Go.RowKit
attribute [local go_sem] over_cell

theorem open_le (C : Cst) : C.O.length ≤ C.g.length := by
  have h1 := List.length_filter_le (fun (i : Nat) => C.g[i]?.getD 0 == 0) (List.range C.g.length)
  simpa [Cst.O, openL, openTo] using h1

set_option maxRecDepth 100000 in
set_option maxHeartbeats 2000000 in
theorem pop_c (b : Nat) (Im : Nat → Prop) (C : Cst) (vf vp : Value) (P : List Int) (x : Int) (w : World) (h : SR w b Im C vf vp (P ++ [x])) :
    Calls Try.prog 54 #[.pointer (some ⟨b, 0, none⟩)] w fun e w' => e = .returned (.int .i64 x) ∧ Stepped w w' b Im C vf vp P := by
  have H := Go.Lib.hid h
  obtain ⟨hok, hx, hn, hl⟩ := h.ok.pop
  have hxu := mem_unused.1 hx
  have hm := h.fine.most
  have hgl := h.fine.len
  have hpl : (P ++ [x]).length = P.length + 1 := by simp
  have hm3 := mem_open.1 (show C.O[P.length]'hl ∈ openL C.g from List.getElem_mem hl)
  obtain ⟨o, ho⟩ : ∃ o : Nat, C.O[P.length]'hl = (o : Int) := ⟨(C.O[P.length]'hl).toNat, by omega⟩
  have hon : o < C.n' := by omega
  have hfl : (fillP C (P ++ [x])).length = C.n' := (fillP_len C _).trans hgl
  obtain ⟨bf, cf, x0, hvf, hx0, hcf, hff, hbf, hcap⟩ := owns_free h.f o (by omega)
  obtain ⟨bp, cp, x1, hvp, hx1, hcp, hpf, hbp, hcap2⟩ := owns_free h.p P.length (by omega)
  have hx1' : x1 = .int .i64 x := by
    simp at hx1
    exact hx1.symm
  subst hx1'
  have hF : Hid (fillP C P = (fillP C (P ++ [x])).set o 0) := by
    unfold Hid
    rw [← fillP_back C P x hl, ho, Int.toNat_natCast]
  have hM : Hid (maskL (leftL C P) = maskL (leftL C (P ++ [x])) ||| 2 ^ (x.toNat - 1)) := left_pop C P x hx hn
  have hOk := Go.Lib.hid hok
  have hlt := h.lt
  have c4 := h.c4
  have c10 := h.c10
  have c11 := h.c11
  have hp := h.p
  have hf := h.f
  have hset := h.set
  have hfz := h.fz
  rw [hfl] at hvf hf hcap
  rw [hpl] at hvp hp hcap2
  subst hvf
  subst hvp
  have hnf := h.nf bf rfl
  have hnp := h.np bp rfl
  have hfp : ¬ bf = bp := fun e => hnp.2.2 (by rw [← e]; rfl)
  have hl1 : (P.length : Int) < (C.O.length : Int) := by omega
  have hl2 : (0 : Int) ≤ (P.length : Int) := by omega
  have ho1 : (o : Int) < (C.n' : Int) := by omega
  have ho2 : (0 : Int) ≤ (o : Int) := by omega
  have hPl : P.length ≤ 256 := by have := open_le C; omega
  have f11 := hfz 11 (by omega)
  -- the world behind the first store
  obtain ⟨W1, hW1⟩ : ∃ W1, W1 = w.setCell ⟨b, 11, none⟩ (.slice (some ⟨bp, 0, none⟩) P.length cp) := ⟨_, rfl⟩
  have hs1 : Stays (fun k => k = b) w W1 := by rw [hW1]; exact Stays.setCell (S := fun k => k = b) w (p := ⟨b, 11, none⟩) rfl _
  have hsz1 : W1.heap.size = w.heap.size := by rw [hW1]; simp [World.setCell]
  have hf1 : W1.ownsRow 0 3 1 (.slice (some ⟨bf, 0, none⟩) C.n' cf) C.n' ((fillP C (P ++ [x])).map (Value.int .i64)) := owns_keep hf (fun k e hlt => hs1.block k hlt (by simp only [Value.ownBlock, Option.some.injEq] at e; subst e; exact hnf.2))
  have hp1 : W1.ownsRow 0 3 1 (.slice (some ⟨bp, 0, none⟩) P.length cp) P.length (P.map (Value.int .i64)) := by
    have := owns_front (owns_keep hp (fun k e hlt => hs1.block k hlt (by simp only [Value.ownBlock, Option.some.injEq] at e; subst e; exact hnp.2.1))) P.length (by omega)
    rwa [List.map_append, List.take_left' (by simp)] at this
  have hc1 : ∀ i, i ≠ 11 → W1.cell? ⟨b, i, none⟩ = w.cell? ⟨b, i, none⟩ := fun i hi => by
    rw [hW1]; exact World.cell?_setCell_other _ _ _ _ (fun e => by simp only [Addr.mk.injEq, true_and, and_true] at e; exact hi e.symm)
  have d11 : W1.cell? ⟨b, 11, none⟩ = some (.slice (some ⟨bp, 0, none⟩) P.length cp) := by rw [hW1]; exact World.cell?_setCell_same _ _ _ c11
  have d10 := (hc1 10 (by omega)).trans c10
  have hz1 : ∀ i, W1.frozen? ⟨b, i, none⟩ = w.frozen? ⟨b, i, none⟩ := fun i => by rw [hW1]; exact World.frozen?_setCell _ _ _ _
  obtain ⟨bo, off, hao, hbo, dco⟩ := (h.sure.keep hs1.size (fun k e => hs1.block k (h.imLt k e) (fun e2 => h.nb (e2 ▸ e)))).here.o.2 P.length hl
  rw [List.getElem?_eq_getElem hl, Option.getD_some, ho] at dco
  rw [hao] at c4
  have d4 := (hc1 4 (by omega)).trans c4
  have hb1 : b < W1.heap.size := by omega
  have hbf1 : bf < W1.heap.size := by omega
  -- the world behind the second store
  obtain ⟨W2, hW2⟩ : ∃ W2, W2 = (W1.setCell ⟨bf, o, none⟩ (.int .i64 0)).drew := ⟨_, rfl⟩
  have hs2 : Stays (fun k => k = bf) W1 W2 := by rw [hW2]; exact (Stays.setCell (S := fun k => k = bf) W1 (p := ⟨bf, o, none⟩) rfl _).drew
  have hf2 : W2.ownsRow 0 3 1 (.slice (some ⟨bf, 0, none⟩) C.n' cf) C.n' (((fillP C (P ++ [x])).map (Value.int .i64)).set o (.int .i64 0)) := by rw [hW2]; exact owns_set hf1 o (.int .i64 0)
  have hp2 : W2.ownsRow 0 3 1 (.slice (some ⟨bp, 0, none⟩) P.length cp) P.length (P.map (Value.int .i64)) := by
    rw [hW2]; exact ownsRow_setCell_other hp1 (a := ⟨bf, o, none⟩) (fun e => hfp (by simp only [Value.ownBlock, Option.some.injEq] at e; exact e.symm)) (.int .i64 0)
  have hbb : ¬ b = bf := fun e => hnf.2 e.symm
  have hc2 : ∀ i, W2.cell? ⟨b, i, none⟩ = W1.cell? ⟨b, i, none⟩ := fun i => hs2.cell hb1 hbb
  have hz2 : ∀ i, W2.frozen? ⟨b, i, none⟩ = w.frozen? ⟨b, i, none⟩ := fun i => (hs2.frozen hb1 hbb).trans (hz1 i)
  have hset2 : SetC W2 b 5 (maskL (leftL C (P ++ [x]))) := fun q hq => (hc2 _).trans ((hc1 _ (by omega)).trans (hset q hq))
  have hb2 : b < W2.heap.size := Nat.lt_of_lt_of_le hb1 hs2.size
  have HP := Go.Lib.hid (sput_c b 5 (maskL (leftL C (P ++ [x]))) x W2 hset2 hxu.1 (by omega) hb2 (fun q hq => (hz2 _).trans (hfz _ (by omega))))
  have HW2 := Go.Lib.hid hW2
  have HC2 := Go.Lib.hid hc2
  have HZ2 := Go.Lib.hid hz2
  clear hset hc2 hz2 hW2
  have dcf : W1.cell? ⟨bf, o, none⟩ = some x0 := (hs1.cell hbf hnf.2).trans hcf
  have dff : W1.frozen? ⟨bf, o, none⟩ = false := (hs1.frozen hbf hnf.2).trans hff
  have HW1 := Go.Lib.hid hW1
  have HSZ := Go.Lib.hid hsz1
  have HC1 := Go.Lib.hid hc1
  have HZ1 := Go.Lib.hid hz1
  have HFZ := Go.Lib.hid hfz
  clear h hW1 hsz1 hc1 hz1 hfz
  go_enter Try.func54, Try.ntmps54
  go_wp2
  rw [← HW1.out]
  clear HW1 hcf hff c4 c10 c11 hcp hpf
  refine wp_region_S (fun w' => ∃ u, w' = over (W1) u) [12] [(0, 0), (0, 1), (0, 2), (0, 3), (0, 4), (0, 5), (0, 6), (0, 7), (0, 8), (0, 9), (0, 10), (0, 11), (2, 12)] (by kernel_rfl) (by kernel_rfl) (by exact ⟨_, below_over (by repeat (first | assumption | exact Below.refl _ _ | refine keep_drew ?_ | refine keep_alloc ?_ _ | refine keep_trans ?_ (by assumption)))⟩) ?_
  dsimp only [pickOps, nthOp]
  repeat (first | (refine wpS_skip rfl (fun K hK => ?_); go_big_quiet_op; refine hK _ ?_; clear hK K) | (refine wpS_quiet rfl rfl (fun K hK => ?_); go_big_quiet_op; refine hK _ ?_; clear hK K))
  refine wpS_late _ _ _ rfl ?_
  dsimp only [List.map]
  go_wp2
  refine NoPanic.normal ?_
  rw [← HW2.out]
  clear HW2
  go_wp2_with (go_at_call 38; refine HP.out.mono ?_; rintro _ W3 ⟨rfl, hp3⟩)
  go_ret
  have h := H.out
  have hsz := HSZ.out
  have hst2 : Stays (fun k => k = b) W2 W3 := hp3.stays
  have hst : Stays (Mut b (.slice (some ⟨bf, 0, none⟩) C.n' cf) (.slice (some ⟨bp, 0, none⟩) (P.length + 1) cp)) w W3 := ((hs1.mono (fun i e => .inl e)).trans hs2 (fun i e => .inl (.inr (.inl (by rw [e]; rfl))))).trans hst2 (fun i e => .inl (.inl e))
  have hcell : ∀ i, i ≠ 11 → (i < 5 ∨ 9 ≤ i) → W3.cell? ⟨b, i, none⟩ = w.cell? ⟨b, i, none⟩ := fun i h1 h2 => (hp3.cell i (by omega)).trans ((HC2.out i).trans (HC1.out i h1))
  refine ⟨rfl, .slice (some ⟨bp, 0, none⟩) P.length cp, ?_, hst, fun k e => .inl e⟩
  have hfo := hF.out
  refine { fine := h.fine, ok := hOk.out, imLt := fun k e => Nat.lt_of_lt_of_le (h.imLt k e) hst.size, sure := h.sure.keep hst.size (fun k e => hst.block k (h.imLt k e) ?_), lt := Nat.lt_of_lt_of_le hlt hst.size, nb := h.nb, nf := h.nf, np := h.np, f := ?_, p := ?_,
           c0 := (hcell 0 (by omega) (by omega)).trans h.c0, c1 := (hcell 1 (by omega) (by omega)).trans h.c1, c2 := (hcell 2 (by omega) (by omega)).trans h.c2, c3 := (hcell 3 (by omega) (by omega)).trans h.c3, c4 := (hcell 4 (by omega) (by omega)).trans h.c4,
           set := by rw [hM.out]; exact PutW.set hset2 hp3, c9 := (hcell 9 (by omega) (by omega)).trans h.c9, c10 := (hcell 10 (by omega) (by omega)).trans h.c10, c11 := (hp3.cell 11 (by omega)).trans ((HC2.out 11).trans d11),
           fz := fun i hi => (hp3.frozen _).trans ((HZ2.out i).trans (HFZ.out i hi)) }
  · rintro (e2 | e2 | e2)
    · exact h.nb (e2 ▸ e)
    · exact (h.nf k e2).1 e
    · exact (h.np k e2).1 e
  · rw [hfo, List.length_set, hfl]
    refine owns_keep (w := W2) ?_ (fun k e hlt => hst2.block k hlt ?_)
    · rw [List.map_set]; exact hf2
    · simp only [Value.ownBlock, Option.some.injEq] at e
      subst e
      exact fun e => hbb e.symm
  · refine owns_keep hp2 (fun k e hlt => hst2.block k hlt (fun e2 => ?_))
    simp only [Value.ownBlock, Option.some.injEq] at e
    exact hnp.2.1 (e.trans e2)

end Go.Proofs.Ytcblpobiefmjmaa
