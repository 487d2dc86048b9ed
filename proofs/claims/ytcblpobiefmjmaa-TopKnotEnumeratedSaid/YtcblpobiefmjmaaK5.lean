/- The enumeration of count: place. -/
import Derived.Test.YtcblpobiefmjmaaK4
namespace Go.Proofs.Ytcblpobiefmjmaa
open Go Go.RowKit Go.Shelf
attribute [local go_sem] over_cell

/-- The first k lines that end at a cell have the sum. -/
def LinesOk (c : NC) (F : List Int) (cell k : Nat) : Prop := ∀ j : Nat, j < k → (c.sum - sumAt ((c.ls.filter (fun l => lastC l == cell))[j]?.getD []) F == 0) = true

set_option maxRecDepth 100000 in
set_option maxHeartbeats 8000000 in
theorem placeS_c (c : NC) (hx : NFix c) (J Jx : List (List Int) → (Nat → Prop) → World → Prop) (hJs : StableM J) (hJxs : StableM Jx) (d : Nat)
    (ih : ∀ (cell : Nat) (W : World) (F : List Int) (U : Nat) (pre : List (List Int)), cell + d = c.N → NS c W F U → (∀ j : Nat, U.testBit j = hasB (F.take cell) (j : Int)) → U < 18446744073709551616 → J pre c.M W →
      Calls Try.prog 35 (#[.int .i64 (cell : Int)] ++ c.caps) W (PlaceQ c J Jx pre (placeL c.ls c.sum c.N d (F.take cell)) cell F U))
    (cell : Nat) (W : World) (F : List Int) (U : Nat) (pre : List (List Int)) (hd : cell + (d + 1) = c.N) (h : NS c W F U) (hU : ∀ j : Nat, U.testBit j = hasB (F.take cell) (j : Int)) (hU2 : U < 18446744073709551616) (h0 : J pre c.M W) :
    Calls Try.prog 35 (#[.int .i64 (cell : Int)] ++ c.caps) W (PlaceQ c J Jx pre (placeL c.ls c.sum c.N (d + 1) (F.take cell)) cell F U) := by
  have cS := h.cS
  have HIH := Go.Lib.hid ih
  have HJS := Go.Lib.hid hJs
  have HJXS := Go.Lib.hid hJxs
  have H := Go.Lib.hid h
  have H0 := Go.Lib.hid h0
  have HU := Go.Lib.hid hU
  have HU2 := Go.Lib.hid hU2
  have HD := Go.Lib.hid hd
  have hn1 := hx.n1
  have hn2 := hx.n2
  have hcN : (((cell : Nat) : Int) == ((c.N : Nat) : Int)) = false := by rw [beq_eq_false_iff_ne]; omega
  have hcl : cell < c.N := by omega
  have HP := Go.Lib.hid (placeL_succ c.ls c.sum c.N d (F.take cell))
  obtain ⟨P, hP⟩ : ∃ P, P = F.take cell := ⟨_, rfl⟩
  have HPE := Go.Lib.hid hP
  rw [← hP] at HP HU
  clear ih hJs hJxs h h0 hU hU2 hd hP
  simp only [NC.caps, List.append_toArray, List.cons_append, List.nil_append]
  go_enter Try.func35, Try.ntmps35
  go_wp2_with fail
  go_step3
  go_wp2_with fail
  go_step3
  go_wp2_with fail
  go_loopw [10] (fun nv wr => ∃ (m : Nat) (F1 : List Int), m ≤ c.N ∧ nv = .int .i64 ((m : Int) + 1) ∧ Hid (NS c wr F1 U) ∧ Hid (F1.take cell = F.take cell) ∧ Hid (J (pre ++ accL c.ls c.sum c.N d P m) c.M wr)) (fun nv _ => c.N + 1 - (intOf nv).toNat)
  case atStart => exact ⟨0, F, by omega, rfl, H.out, rfl, by rw [accL_zero, List.append_nil]; exact H0.out⟩
  case round =>
    obtain ⟨m, F1, hm, rfl, h1, hF1, hJ1⟩ := hrel
    have cS1 := h1.out.cS
    have cU := q_cell h1.out.qU 0
    have fU := q_free h1.out.qU 0
    by_cases hlt : m < c.N
    · have hE := and_one_bit U (m + 1) HU2.out
      rw [HU.out, show (((m + 1 : Nat)) : Int) = (m : Int) + 1 from by omega] at hE
      by_cases hu : hasB P ((m : Int) + 1) = true
      · rw [hu] at hE
        have HB := Go.Lib.hid hu
        clear hu
        go_wp2
        go_roundw
        case rel =>
          refine ⟨m + 1, F1, by omega, by go_num, h1.out, hF1.out, ?_⟩
          rw [accL_succ, childL, if_pos HB.out, List.append_nil]
          exact hJ1.out
        case measure => simp [intOf]; omega
      · have hu' : hasB P ((m : Int) + 1) = false := by simpa using hu
        rw [hu'] at hE
        have HB := Go.Lib.hid hu'
        clear hu hu'
        have cF : wr.cell? ⟨c.bF, 0, none⟩ = some (.slice (some ⟨c.g, 0, none⟩) c.N c.N) := q_cell h1.out.qF 0
        obtain ⟨gg, capg, xg, hgv, _, hcg, hfg, hgl, _⟩ := owns_free h1.out.f cell hcl
        simp only [NC.fV, Value.slice.injEq, Option.some.injEq, Addr.mk.injEq, true_and, and_true] at hgv
        obtain ⟨rfl, hcap⟩ := hgv
        clear hcap
        have h2 := Go.Lib.hid (h1.out.setF hx cell ((m : Int) + 1) (by omega) (by omega))
        have hJ2 := Go.Lib.hid (HJS.out _ _ c.M _ _ hJ1.out (Stays.setCell (S := c.M) wr (p := ⟨c.g, cell, none⟩) hx.mg (.int .i64 ((m : Int) + 1))) (fun k e => .inl e))
        have hcl1 : (cell : Int) < (c.N : Int) := by omega
        have hcl0 : (0 : Int) ≤ (cell : Int) := by omega
        have cE := q_cell h2.out.qE 0
        obtain ⟨ak, nk, ck, hck, hal, hrc, hnk⟩ := h2.out.ends.here cell hcl
        go_wp2_with fail
        have hsW : wr.heap.size = (wr.setCell ⟨c.g, cell, none⟩ (.int .i64 ((m : Int) + 1))).heap.size := by simp [World.setCell]
        obtain ⟨F2, hF2⟩ : ∃ F2, F2 = F1.set cell ((m : Int) + 1) := ⟨_, rfl⟩
        rw [← hF2] at h2
        generalize (wr.setCell ⟨c.g, cell, none⟩ (.int .i64 ((m : Int) + 1))) = W1 at h2 hJ2 hck hal hrc hsW ⊢
        have HF2 := Go.Lib.hid hF2
        have hicF := (IC.of_owns (xs := F2) (by have := h2.out.f; rw [← h2.out.len] at this; exact this) (by have := h2.out.len; omega)).1
        have cSum := q_cell h2.out.qSum 0
        have cF2 : W1.cell? ⟨c.bF, 0, none⟩ = some (.slice (some ⟨c.g, 0, none⟩) c.N c.N) := q_cell h2.out.qF 0
        have cS2 := h2.out.cS
        have hnum := Go.Lib.hid h2.out.num
        have hPl : P.length = cell := by rw [HPE.out, List.length_take, H.out.len]; omega
        have HT2 : Hid (F2.take (cell + 1) = P ++ [(m : Int) + 1]) := by
          unfold Hid
          rw [HF2.out, take_snoc _ 0 _ (by rw [List.length_set, h1.out.len]; exact hcl), List.take_set_of_le (Nat.le_refl _), hF1.out, ← HPE.out, List.getElem?_set_self (by rw [h1.out.len]; exact hcl)]
          rfl
        have HOK := Go.Lib.hid (okAt_eq hx hPl HT2.out)
        have HR : Hid (∀ k : Nat, k < nk → (c.ls.filter (fun l => lastC l == cell))[k]?.getD [] ∈ c.ls) := fun k hk => by
          have hk' : k < (c.ls.filter (fun l => lastC l == cell)).length := by rw [hrc.len]; exact hk
          rw [List.getElem?_eq_getElem hk']
          exact (List.mem_filter.1 (List.getElem_mem hk')).1
        have HRL := Go.Lib.hid hrc.len
        have hs1 := hx.sum1
        have hs2 := hx.sum2
        clear hF2 cE hck cF cU fU hE hcg hfg
        go_loopg [44] nk (fun gk kv wv => ∃ k : Nat, gk = nk - k ∧ k ≤ nk ∧ kv = .int .i64 k ∧ LinesOk c F2 cell k ∧ wv = W1)
        case atStart => exact ⟨0, by omega, by omega, rfl, fun j hj => absurd hj (by omega), rfl⟩
        case round =>
          obtain ⟨k, rfl, hk, rfl, hall, hwv⟩ := hrel
          replace hwv := hwv.symm
          subst hwv
          have hnks := hrc.small
          by_cases hltk : k < nk
          · obtain ⟨b, off, a1, n1, c1, rfl, hb, hc, hi, hic1⟩ := hrc.2 k hltk
            have HL := Go.Lib.hid (hx.line _ (HR.out k hltk))
            generalize hgl : (c.ls.filter (fun l => lastC l == cell))[k]?.getD [] = l at hi HL
            have HGL := Go.Lib.hid hgl
            clear hgl
            have hn1l := hi.len
            have hn1s : n1 ≤ 256 := by have := HL.out.2.1; omega
            go_wp2_with fail
            go_loopg [13, 51] n1 (fun gk2 lv iv wv => ∃ j : Nat, gk2 = n1 - j ∧ j ≤ n1 ∧ iv = .int .i64 j ∧ lv = .int .i64 (c.sum - sumTo l F2 j) ∧ wv = W1)
            case atStart => exact ⟨0, by omega, by omega, rfl, by simp [sumTo, sumAt], rfl⟩
            case round =>
              obtain ⟨j, rfl, hj, rfl, rfl, hwv⟩ := hrel
              replace hwv := hwv.symm
              subst hwv
              have hbd := sumTo_bd (l := l) (f := F2) (B := 256) hnum.out j (by omega)
              have hb1 := hbd.1
              have hb2 : sumTo l F2 j ≤ 65536 := by omega
              clear hbd
              by_cases hltj : j < n1
              · obtain ⟨b2, off2, rfl, hb2l, hcl2⟩ := hi.2 j hltj
                have hr := HL.out.2.2 _ (List.getElem_mem (l := l) (n := j) (by omega))
                obtain ⟨x, hxx⟩ : ∃ x : Nat, l[j]?.getD 0 = (x : Int) := ⟨(l[j]'(by omega)).toNat, by rw [List.getElem?_eq_getElem (by omega), Option.getD_some]; omega⟩
                have hxN : x < c.N := by rw [List.getElem?_eq_getElem (by omega), Option.getD_some] at hxx; omega
                have hSS := Go.Lib.hid (sumTo_succ (f := F2) (show j < l.length by omega))
                rw [hxx] at hSS hcl2
                clear hr hxx
                obtain ⟨b3, off3, e3, hb3, hc3⟩ := hicF.2 x hxN
                simp only [Option.some.injEq, Addr.mk.injEq, and_true] at e3
                obtain ⟨rfl, rfl⟩ := e3
                rw [Nat.zero_add] at hc3
                have hfx := hnum.out x
                have hf1 := hfx.1
                have hf2 := hfx.2
                clear hfx
                have hxN1 : (x : Int) < (c.N : Int) := by omega
                go_wp2
                go_roundg (n1 - (j + 1))
                case measure => omega
                case rel => exact ⟨j + 1, rfl, by omega, by go_num, by rw [hSS.out]; simp; omega, rfl⟩
              · have e : j = n1 := by omega
                subst e
                have hsA : sumTo l F2 j = sumAt l F2 := by unfold sumTo; rw [List.take_of_length_le (by omega)]
                rw [hsA] at hb1 hb2 ⊢
                by_cases hz : (c.sum - sumAt l F2 == 0) = true
                · have hz2 : (c.sum - sumAt l F2 != 0) = false := by simp only [bne, hz]; rfl
                  have HZ := Go.Lib.hid hz
                  clear hz hsA
                  go_wp2
                  go_roundg (nk - (k + 1))
                  case measure => omega
                  case rel =>
                    refine ⟨k + 1, rfl, by omega, by go_num, fun i hi2 => ?_, rfl⟩
                    rcases Nat.lt_or_ge i k with h3 | h3
                    · exact hall i h3
                    · have : i = k := by omega
                      subst this
                      rw [HGL.out]; exact HZ.out
                · have hz1 : (c.sum - sumAt l F2 == 0) = false := by simpa using hz
                  have hz2 : (c.sum - sumAt l F2 != 0) = true := by simp only [bne, hz1]; rfl
                  have HZ := Go.Lib.hid hz1
                  clear hz hsA hz1
                  go_wp2
                  go_roundw
                  case rel =>
                    refine ⟨m + 1, F2, by omega, by go_num, h2.out, ?_, ?_⟩
                    · show F2.take cell = F.take cell
                      rw [HF2.out, List.take_set_of_le (Nat.le_refl _)]; exact hF1.out
                    · rw [accL_succ, childL, if_neg (by rw [HB.out]; decide), if_neg ?_, List.append_nil]
                      · exact hJ2.out
                      · rw [HOK.out]
                        intro hh
                        have hkl : k < (c.ls.filter (fun l => lastC l == cell)).length := by rw [HRL.out]; exact hltk
                        have h3 := List.all_eq_true.1 hh _ (List.getElem_mem hkl)
                        have h4 := HGL.out
                        rw [List.getElem?_eq_getElem hkl, Option.getD_some] at h4
                        rw [h4, HZ.out] at h3
                        cases h3
                  case measure => simp [intOf]; omega
          · have e : k = nk := by omega
            subst e
            have HALL : Hid (okAt c.ls c.sum (P ++ [(m : Int) + 1]) = true) := by
              unfold Hid
              rw [HOK.out, List.all_eq_true]
              intro x hxm
              obtain ⟨i, hi, rfl⟩ := List.getElem_of_mem hxm
              have h3 := hall i (by rw [← HRL.out]; exact hi)
              rwa [List.getElem?_eq_getElem hi, Option.getD_some] at h3
            have cU2 := q_cell h2.out.qU 0
            have fU2 := q_free h2.out.qU 0
            have hUlt := h2.out.uLt
            go_wp2_with fail
            refine wp_region_S (fun w' => ∃ u, w' = over (W1) u) [4] [(0, 0), (0, 1), (0, 2), (0, 3), (2, 4)] (by kernel_rfl) (by kernel_rfl) (by exact ⟨_, below_over (by repeat (first | assumption | exact Below.refl _ _ | refine keep_drew ?_ | refine keep_alloc ?_ _ | refine keep_trans ?_ (by assumption)))⟩) ?_
            dsimp only [pickOps, nthOp]
            repeat (first | (refine wpS_skip rfl (fun K hK => ?_); go_big_quiet_op; refine hK _ ?_; clear hK K) | (refine wpS_quiet rfl rfl (fun K hK => ?_); go_big_quiet_op; refine hK _ ?_; clear hK K))
            refine wpS_late _ _ _ rfl ?_
            dsimp only [List.map]
            go_wp2
            refine NoPanic.normal ?_
            rw [or_bit U (m + 1) HU2.out (by omega)]
            obtain ⟨U2, hU2e⟩ : ∃ U2, U2 = U ||| 2 ^ (m + 1) := ⟨_, rfl⟩
            rw [← hU2e]
            have h3 := Go.Lib.hid ((h2.out.setU hx U2).drew)
            have hJ3 := Go.Lib.hid (HJS.out _ _ c.M _ _ hJ2.out (Stays.setCell (S := c.M) W1 (p := ⟨c.bU, 0, none⟩) hx.mu (.int .u64 (U2 : Int))).drew (fun k e => .inl e))
            generalize ((W1.setCell ⟨c.bU, 0, none⟩ (.int .u64 (U2 : Int))).drew) = W2 at h3 hJ3 ⊢
            have hb2 : Hid (∀ j : Nat, U2.testBit j = hasB (P ++ [(m : Int) + 1]) (j : Int)) := fun j => by
              rw [hU2e, Nat.testBit_or, HU.out, hasB_snoc, Nat.testBit_two_pow]
              congr 1
              rw [Bool.eq_iff_iff]; simp; omega
            have hb3 : Hid (U2 < 18446744073709551616) := by
              unfold Hid
              rw [hU2e]
              refine Nat.or_lt_two_pow (n := 64) HU2.out ?_
              exact Nat.pow_lt_pow_right (by decide) (by omega)
            have hEU : Hid (bits BinOp.andNot IntKind.u64 (U2 : Int) (IntKind.u64.wrap (2 ^ (m + 1))) = (U : Int)) := by
              unfold Hid
              rw [andNot_bit U2 (m + 1) hb3.out (by omega)]
              rw [hU2e, clear_set HU2.out (by omega) (by rw [HU.out]; exact HB.out)]
            have HC : Hid (Calls Try.prog 35 #[.int .i64 ((cell : Int) + 1), .pointer (some ⟨c.bS, 0, none⟩), .pointer (some ⟨c.bY, 0, none⟩), .pointer (some ⟨c.bF, 0, none⟩), .pointer (some ⟨c.bU, 0, none⟩), .pointer (some ⟨c.bE, 0, none⟩), .pointer (some ⟨c.bSum, 0, none⟩), .pointer (some ⟨c.bP, 0, none⟩)] W2 (PlaceQ c J Jx (pre ++ accL c.ls c.sum c.N d P m) (placeL c.ls c.sum c.N d (P ++ [(m : Int) + 1])) (cell + 1) F2 U2)) := by
              have h := HIH.out (cell + 1) W2 F2 U2 (pre ++ accL c.ls c.sum c.N d P m) (by have := HD.out; omega) h3.out (by rw [HT2.out]; exact hb2.out) hb3.out hJ3.out
              rw [HT2.out, show (((cell + 1 : Nat)) : Int) = (cell : Int) + 1 from by omega] at h
              simp only [NC.caps, List.append_toArray, List.cons_append, List.nil_append] at h
              exact h
            have cP3 := q_cell h3.out.qP 0
            clear hU2e hJ3
            unfold NC.caps at cP3
            go_wp2_with fail
            have hch : Hid (childL c.ls c.sum c.N d P m = placeL c.ls c.sum c.N d (P ++ [(m : Int) + 1])) := by
              unfold Hid childL
              rw [if_neg (by rw [HB.out]; decide), if_pos HALL.out]
            refine HC.out.mono ?_
            rintro _ W3 (⟨rfl, F3, h4, hF3, hJ4⟩ | ⟨rfl, ⟨F3, h4⟩, ys, hys, hJ4⟩)
            · have cU4 := q_cell h4.qU 0
              have fU4 := q_free h4.qU 0
              have hUlt4 := h4.uLt
              have H4 := Go.Lib.hid h4
              have HF3 := Go.Lib.hid hF3
              have HJ4 := Go.Lib.hid hJ4
              clear h4 hF3 hJ4
              go_wp2_with fail
              refine wp_region_S (fun w' => ∃ u, w' = over (W3) u) [4] [(0, 0), (0, 1), (0, 2), (0, 3), (2, 4)] (by kernel_rfl) (by kernel_rfl) (by exact ⟨_, below_over (by repeat (first | assumption | exact Below.refl _ _ | refine keep_drew ?_ | refine keep_alloc ?_ _ | refine keep_trans ?_ (by assumption)))⟩) ?_
              dsimp only [pickOps, nthOp]
              repeat (first | (refine wpS_skip rfl (fun K hK => ?_); go_big_quiet_op; refine hK _ ?_; clear hK K) | (refine wpS_quiet rfl rfl (fun K hK => ?_); go_big_quiet_op; refine hK _ ?_; clear hK K))
              refine wpS_late _ _ _ rfl ?_
              dsimp only [List.map]
              go_wp2
              refine NoPanic.normal ?_
              rw [hEU.out]
              have h5 := Go.Lib.hid ((H4.out.setU hx U).drew)
              have hJ5 := Go.Lib.hid (HJS.out _ _ c.M _ _ HJ4.out (Stays.setCell (S := c.M) W3 (p := ⟨c.bU, 0, none⟩) hx.mu (.int .u64 (U : Int))).drew (fun k e => .inl e))
              generalize ((W3.setCell ⟨c.bU, 0, none⟩ (.int .u64 (U : Int))).drew) = W4 at h5 hJ5 ⊢
              go_wp2
              go_roundw
              case rel =>
                refine ⟨m + 1, F3, by omega, by go_num, h5.out, ?_, ?_⟩
                · show F3.take cell = F.take cell
                  have h6 := congrArg (List.take cell) HF3.out
                  rw [List.take_take, List.take_take, show min cell (cell + 1) = cell from by omega] at h6
                  rw [h6, HF2.out, List.take_set_of_le (Nat.le_refl _)]; exact hF1.out
                · rw [accL_succ, hch.out, ← List.append_assoc]; exact hJ5.out
              case measure => simp [intOf]; omega
            · have cU4 := q_cell h4.qU 0
              have fU4 := q_free h4.qU 0
              have hUlt4 := h4.uLt
              have H4 := Go.Lib.hid h4
              have HYS := Go.Lib.hid hys
              have HJ4 := Go.Lib.hid hJ4
              clear h4 hys hJ4
              go_wp2_with fail
              refine wp_region_S (fun w' => ∃ u, w' = over (W3) u) [4] [(0, 0), (0, 1), (0, 2), (0, 3), (2, 4)] (by kernel_rfl) (by kernel_rfl) (by exact ⟨_, below_over (by repeat (first | assumption | exact Below.refl _ _ | refine keep_drew ?_ | refine keep_alloc ?_ _ | refine keep_trans ?_ (by assumption)))⟩) ?_
              dsimp only [pickOps, nthOp]
              repeat (first | (refine wpS_skip rfl (fun K hK => ?_); go_big_quiet_op; refine hK _ ?_; clear hK K) | (refine wpS_quiet rfl rfl (fun K hK => ?_); go_big_quiet_op; refine hK _ ?_; clear hK K))
              refine wpS_late _ _ _ rfl ?_
              dsimp only [List.map]
              go_wp2
              refine NoPanic.normal ?_
              rw [hEU.out]
              have h5 := Go.Lib.hid ((H4.out.setU hx U).drew)
              have hJ5 := Go.Lib.hid (HJXS.out _ _ c.M _ _ HJ4.out (Stays.setCell (S := c.M) W3 (p := ⟨c.bU, 0, none⟩) hx.mu (.int .u64 (U : Int))).drew (fun k e => .inl e))
              generalize ((W3.setCell ⟨c.bU, 0, none⟩ (.int .u64 (U : Int))).drew) = W4 at h5 hJ5 ⊢
              go_wp2
              rw [Exit.noGoto_ret]
              go_ret
              refine .inr ⟨rfl, ⟨F3, h5.out⟩, accL c.ls c.sum c.N d P m ++ ys, ⟨?_, fun e => HYS.out.2 (List.append_eq_nil_iff.1 e).2⟩, by rw [← List.append_assoc]; exact hJ5.out⟩
              have h6 := accL_mono c.ls c.sum c.N d P (show m + 1 ≤ c.N by omega)
              rw [accL_succ, hch.out, ← HP.out] at h6
              rw [← HPE.out]
              exact List.IsPrefix.trans ((List.prefix_append_right_inj _).2 HYS.out.1) h6
    · have e : m = c.N := by omega
      subst e
      go_wp2
      rw [Exit.noGoto_ret]
      go_ret
      refine .inl ⟨rfl, F1, h1.out, hF1.out, ?_⟩
      rw [← HPE.out, HP.out]
      exact hJ1.out

/-- What a call of place does, at every cell. -/
theorem place_c (c : NC) (hx : NFix c) (J Jx : List (List Int) → (Nat → Prop) → World → Prop) (hJs : StableM J) (hJxs : StableM Jx)
    (hY : ∀ pre x M W0 W1, J pre M W0 → Below W0.heap.size W0 W1 → NewN x W0 → GivenN c x M W1 → YieldAt Fence.wide 0 Try.prog c.l (encN c x) W1 fun e W' =>
      (e = .returned (.bool true) ∧ J (pre ++ [x]) M W' ∧ KpN c M W1 W') ∨ (e = .returned (.bool false) ∧ Jx (pre ++ [x]) M W' ∧ KpN c M W1 W')) :
    ∀ (d cell : Nat) (W : World) (F : List Int) (U : Nat) (pre : List (List Int)), cell + d = c.N → NS c W F U → (∀ j : Nat, U.testBit j = hasB (F.take cell) (j : Int)) → U < 18446744073709551616 → J pre c.M W →
      Calls Try.prog 35 (#[.int .i64 (cell : Int)] ++ c.caps) W (PlaceQ c J Jx pre (placeL c.ls c.sum c.N d (F.take cell)) cell F U) := by
  intro d
  induction d with
  | zero =>
    intro cell W F U pre hd h _ _ h0
    have e : cell = c.N := by omega
    rw [e]
    exact place0_c c hx J Jx hY W F U pre h h0
  | succ d ih => exact fun cell W F U pre hd h hU hU2 h0 => placeS_c c hx J Jx hJs hJxs d ih cell W F U pre hd h hU hU2 h0

end Go.Proofs.Ytcblpobiefmjmaa
