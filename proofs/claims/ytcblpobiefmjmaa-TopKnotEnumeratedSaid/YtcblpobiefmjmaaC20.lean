/- Contracts: next of a search. -/
import Derived.Test.YtcblpobiefmjmaaC19
namespace Go.Proofs.Ytcblpobiefmjmaa
open Go Go.RowKit
attribute [local go_sem] over_cell

theorem Stepped.refl {w : World} {b : Nat} {Im : Nat → Prop} {C : Cst} {vf vp : Value} {P : List Int} (h : SR w b Im C vf vp P) : Stepped w w b Im C vf vp P :=
  ⟨vp, h, Stays.refl _ _, fun _ e => .inl e⟩

theorem Stepped.trans {w w1 w2 : World} {b : Nat} {Im : Nat → Prop} {C : Cst} {vf vp vp1 : Value} {P : List Int} (hs : Stays (Mut b vf vp) w w1) (hk : ∀ k, vp1.ownBlock = some k → vp.ownBlock = some k ∨ w.heap.size ≤ k) (h2 : Stepped w1 w2 b Im C vf vp1 P) : Stepped w w2 b Im C vf vp P := by
  obtain ⟨vp2, hr, hs2, hk2⟩ := h2
  refine ⟨vp2, hr, hs.trans hs2 (fun i e => ?_), fun k e => ?_⟩
  · rcases e with e | e | e
    · exact .inl (.inl e)
    · exact .inl (.inr (.inl e))
    · exact (hk i e).imp (fun e => .inr (.inr e)) id
  · rcases hk2 k e with e | e
    · exact hk k e
    · exact .inr (Nat.le_trans hs.size e)

theorem Stepped.below {w w1 w2 : World} {b : Nat} {Im : Nat → Prop} {C : Cst} {vf vp : Value} {P : List Int} (h : Stepped w w1 b Im C vf vp P) (hb : Below w1.heap.size w1 w2) : Stepped w w2 b Im C vf vp P := by
  obtain ⟨vp1, hr, hs, hk⟩ := h
  exact ⟨vp1, hr.below hb, hs.trans (Below.stays hb (Mut b vf vp)) (fun i e => .inl e), hk⟩

/-- The path behind the last number that can be raised; the path comes from its end. -/
def backP (C : Cst) : List Int → Option (List Int)
  | [] => none
  | x :: R => if 0 < aboveM (maskL (leftL C R.reverse)) x.toNat then some (R.reverse ++ [((aboveM (maskL (leftL C R.reverse)) x.toNat : Nat) : Int)]) else backP C R

/-- The next path. -/
def nextP (C : Cst) (P : List Int) : Option (List Int) :=
  if (P.length == C.O.length) = false ∧ wrongB C P = false then some (P ++ [((aboveM (maskL (leftL C P)) 0 : Nat) : Int)]) else backP C P.reverse

theorem aboveM_spec {M x : Nat} (h : 0 < aboveM M x) : x < aboveM M x ∧ aboveM M x ≤ 256 ∧ M.testBit (aboveM M x - 1) = true := by
  unfold aboveM at h ⊢
  cases e : (List.range 257).find? (fun j => decide (x < j) && M.testBit (j - 1)) with
  | none => rw [e] at h; exact absurd h (by simp)
  | some j =>
    have h1 := List.find?_some e
    have h2 := List.mem_of_find?_eq_some e
    simp only [Bool.and_eq_true, decide_eq_true_eq] at h1
    show x < j ∧ j ≤ 256 ∧ M.testBit (j - 1) = true
    exact ⟨h1.1, by have := List.mem_range.1 h2; omega, h1.2⟩

theorem above_left {C : Cst} {P : List Int} {x : Nat} (h : 0 < aboveM (maskL (leftL C P)) x) : ((aboveM (maskL (leftL C P)) x : Nat) : Int) ∈ unusedL C.g ∧ ((aboveM (maskL (leftL C P)) x : Nat) : Int) ∉ P := by
  have h1 := (aboveM_spec h).2.2
  rw [testBit_maskL, hasB_left, Bool.and_eq_true, Bool.not_eq_true'] at h1
  have e : ((aboveM (maskL (leftL C P)) x - 1 : Nat) : Int) + 1 = ((aboveM (maskL (leftL C P)) x : Nat) : Int) := by omega
  rw [e] at h1
  exact ⟨hasB_iff.1 h1.1, fun hm => by rw [hasB_iff.2 hm] at h1; exact absurd h1.2 (by decide)⟩

theorem nodup_le : ∀ {l m : List Int}, l.Nodup → (∀ x, x ∈ l → x ∈ m) → l.length ≤ m.length
  | [], m, _, _ => Nat.zero_le _
  | x :: l, m, hn, hs => by
    have hx := hs x List.mem_cons_self
    have hn' := List.nodup_cons.1 hn
    have := nodup_le (l := l) (m := m.erase x) hn'.2 (fun y hy => by
      rw [List.mem_erase_of_ne (fun e : y = x => hn'.1 (by rw [← e]; exact hy))]
      exact hs y (List.mem_cons_of_mem _ hy))
    rw [List.length_erase_of_mem hx] at this
    have : 0 < m.length := List.length_pos_of_mem hx
    simp only [List.length_cons]
    omega

/-- As many numbers are unused as cells are open. -/
def Even (C : Cst) : Prop := (unusedL C.g).length = C.O.length

theorem above_first {C : Cst} {P : List Int} (he : Even C) (hf : Fine C) (hl : P.length < C.O.length) : 0 < aboveM (maskL (leftL C P)) 0 := by
  rcases Nat.eq_zero_or_pos (aboveM (maskL (leftL C P)) 0) with h0 | h0
  · exfalso
    have hall : ∀ x, x ∈ unusedL C.g → x ∈ P := by
      intro x hx
      have h3 := mem_unused.1 hx
      have := hf.len
      have := hf.most
      apply Classical.byContradiction
      intro hn
      have hb : (maskL (leftL C P)).testBit (x.toNat - 1) = true := by
        rw [testBit_maskL, hasB_left, show ((x.toNat - 1 : Nat) : Int) + 1 = x from by omega, hasB_iff.2 hx]
        simp only [Bool.true_and, Bool.not_eq_true']
        rw [Bool.eq_false_iff]
        exact fun h => hn (hasB_iff.1 h)
      unfold aboveM at h0
      cases e : (List.range 257).find? (fun j => decide (0 < j) && (maskL (leftL C P)).testBit (j - 1)) with
      | none =>
        rw [List.find?_eq_none] at e
        have := e x.toNat (List.mem_range.2 (by omega))
        simp [hb] at this
        omega
      | some j =>
        rw [e] at h0
        have h1 := List.find?_some e
        simp only [Bool.and_eq_true, decide_eq_true_eq] at h1
        have : j = 0 := h0
        omega
    have := nodup_le (unused_nodup C.g) hall
    have : (unusedL C.g).length = C.O.length := he
    omega
  · exact h0

set_option maxRecDepth 100000 in
set_option maxHeartbeats 2000000 in
theorem next_c (b : Nat) (Im : Nat → Prop) (C : Cst) (vf vp : Value) (P : List Int) (w : World) (h : SR w b Im C vf vp P) (he : Even C) :
    Calls Try.prog 41 #[.pointer (some ⟨b, 0, none⟩)] w fun e w' => e = .returned (.bool (nextP C P).isSome) ∧ Stepped w w' b Im C vf vp ((nextP C P).getD []) := by
  go_enter Try.func41, Try.ntmps41
  have HF := Go.Lib.hid (full_c b Im C vf vp P w h)
  have HW := Go.Lib.hid (fun w1 (hb : Below w.heap.size w w1) => wrong_c b Im C vf vp P w1 (h.below hb))
  have HA := Go.Lib.hid (fun w1 (hb : Below w.heap.size w w1) => above_c b 5 (maskL (leftL C P)) 0 w1 (h.below hb).set (by omega))
  have H := Go.Lib.hid h
  clear h
  by_cases hfull : (P.length == C.O.length) = true
  · rw [hfull] at HF
    go_wp2_with (first | (go_at_call 42; refine HF.out.mono ?_; rintro _ w1 ⟨rfl, hb1⟩) | (go_at_call 40; refine (HW.out _ hb1).mono ?_; rintro _ w2 ⟨rfl, hb2⟩))
    have HN : nextP C P = backP C P.reverse := if_neg (fun e => by rw [hfull] at e; exact absurd e.1 (by decide))
    have HSX := (Stepped.refl H.out).below hb1
    obtain ⟨hnb, hS⟩ : nextP C P = backP C P.reverse ∧ Stepped w w1 b Im C vf vp P := ⟨HN, HSX⟩
    go_loopg [] (P.length + 1) (fun k wr => ∃ R : List Int, k = R.length + 1 ∧ backP C R = backP C P.reverse ∧ Stepped w wr b Im C vf vp R.reverse)
    case atStart => exact ⟨P.reverse, by simp, rfl, by rw [List.reverse_reverse]; exact hS⟩
    case round =>
      obtain ⟨R, rfl, hbk, vp1, hsr, hst, hk⟩ := hrel
      have hlt := hsr.lt
      have c11 := hsr.c11
      obtain ⟨ap, cp, rfl⟩ := owns_shape hsr.p
      cases R with
      | nil =>
        simp only [List.reverse_nil, List.length_nil] at c11
        have hE := hnb.trans hbk.symm
        clear hbk hnb
        go_wp2
        go_ret
        rw [show nextP C P = none from hE]
        exact ⟨rfl, _, hsr, hst, hk⟩
      | cons x R =>
        rw [List.reverse_cons] at c11 hsr hk
        have hpl : (R.reverse ++ [x]).length = R.length + 1 := by simp
        rw [hpl] at c11 hk hsr
        have hpop := hsr.ok.pop
        have hxu := mem_unused.1 hpop.2.1
        obtain ⟨y, rfl⟩ : ∃ y : Nat, x = (y : Int) := ⟨x.toNat, by omega⟩
        have hy : y ≤ 256 := by have := hsr.fine.len; have := hsr.fine.most; omega
        have HPOP := Go.Lib.hid (fun w1 (hb : Below wr.heap.size wr w1) => pop_c b Im C vf _ R.reverse (y : Int) w1 (hsr.below hb))
        have hE : Hid (backP C ((y : Int) :: R) = if 0 < aboveM (maskL (leftL C R.reverse)) y then some (R.reverse ++ [((aboveM (maskL (leftL C R.reverse)) y : Nat) : Int)]) else backP C R) := rfl
        have HBK := Go.Lib.hid hbk
        have HNB := Go.Lib.hid hnb
        clear hbk hnb
        go_wp2
        refine wp_region_S (fun _ => True) [6, 5] [(0, 0), (0, 1), (0, 2), (0, 3), (1, 4), (2, 5), (2, 6)] (by kernel_rfl) (by kernel_rfl) (by trivial) ?_
        dsimp only [pickOps, nthOp]
        repeat (first | (refine wpS_skip rfl (fun K hK => ?_); go_big_quiet_op; refine hK _ ?_; clear hK K) | (refine wpS_quiet rfl rfl (fun K hK => ?_); go_big_quiet_op; refine hK _ ?_; clear hK K) | (refine wpS_loud ?_; go_wp2_with (first | (go_at_call 54; refine (HPOP.out _ (keep_drew (Below.refl _ _))).mono ?_; rintro _ w5 ⟨rfl, vp5, hsr5, hst5, hk5⟩) | (go_at_call 53; refine (above_c b 5 (maskL (leftL C R.reverse)) y w5 hsr5.set hy).mono ?_; rintro _ w6 ⟨rfl, rfl⟩)); refine ⟨?_, ?_⟩; focus (trivial)))
        refine wpS_late _ _ _ rfl ?_
        dsimp only [List.map]
        go_wp2_with (first | (go_at_call 54; refine (HPOP.out _ (keep_drew (Below.refl _ _))).mono ?_; rintro _ w5 ⟨rfl, vp5, hsr5, hst5, hk5⟩) | (go_at_call 53; refine (above_c b 5 (maskL (leftL C R.reverse)) y w5 hsr5.set hy).mono ?_; rintro _ w6 ⟨rfl, rfl⟩))
        refine NoPanic.normal ?_
        obtain ⟨vp6, hsr6, hst6, hk6⟩ : Stepped w w5 b Im C vf vp R.reverse := Stepped.trans hst.drew hk ⟨vp5, hsr5, hst5, hk5⟩
        clear HPOP hsr5 hst5 hk5 hsr
        by_cases hab : 0 < aboveM (maskL (leftL C R.reverse)) y
        · have hal := above_left hab
          have HPU := Go.Lib.hid (push_c b Im C vf vp6 R.reverse _ w5 hsr6 hpop.2.2.2 hal.1 hal.2)
          have hab2 : (0 : Int) < ((aboveM (maskL (leftL C R.reverse)) y : Nat) : Int) := by omega
          have hEQ : Hid (nextP C P = some (R.reverse ++ [((aboveM (maskL (leftL C R.reverse)) y : Nat) : Int)])) := HNB.out.trans (HBK.out.symm.trans (hE.out.trans (if_pos hab)))
          clear hal
          go_wp2_with (go_at_call 52; refine HPU.out.mono ?_; rintro _ w7 ⟨rfl, hs7⟩)
          go_ret
          rw [hEQ.out]
          exact ⟨rfl, Stepped.trans hst6 hk6 hs7⟩
        · have hab2 : ¬ (0 : Int) < ((aboveM (maskL (leftL C R.reverse)) y : Nat) : Int) := by omega
          go_wp2
          go_roundg (R.length + 1)
          case measure => simp
          case rel => exact ⟨R, rfl, (hE.out.trans (if_neg hab)).symm.trans HBK.out, vp6, hsr6, hst6, hk6⟩
  · have hfull' : (P.length == C.O.length) = false := by simpa using hfull
    rw [hfull'] at HF
    by_cases hw : wrongB C P = true
    · rw [hw] at HW
      go_wp2_with (first | (go_at_call 42; refine HF.out.mono ?_; rintro _ w1 ⟨rfl, hb1⟩) | (go_at_call 40; refine (HW.out _ hb1).mono ?_; rintro _ w2 ⟨rfl, hb2⟩))
      have HN : nextP C P = backP C P.reverse := if_neg (fun e => by rw [hw] at e; exact absurd e.2 (by decide))
      have HSX := ((Stepped.refl H.out).below hb1).below hb2
      obtain ⟨hnb, hS⟩ : nextP C P = backP C P.reverse ∧ Stepped w w2 b Im C vf vp P := ⟨HN, HSX⟩
      go_loopg [] (P.length + 1) (fun k wr => ∃ R : List Int, k = R.length + 1 ∧ backP C R = backP C P.reverse ∧ Stepped w wr b Im C vf vp R.reverse)
      case atStart => exact ⟨P.reverse, by simp, rfl, by rw [List.reverse_reverse]; exact hS⟩
      case round =>
        obtain ⟨R, rfl, hbk, vp1, hsr, hst, hk⟩ := hrel
        have hlt := hsr.lt
        have c11 := hsr.c11
        obtain ⟨ap, cp, rfl⟩ := owns_shape hsr.p
        cases R with
        | nil =>
          simp only [List.reverse_nil, List.length_nil] at c11
          have hE := hnb.trans hbk.symm
          clear hbk hnb
          go_wp2
          go_ret
          rw [show nextP C P = none from hE]
          exact ⟨rfl, _, hsr, hst, hk⟩
        | cons x R =>
          rw [List.reverse_cons] at c11 hsr hk
          have hpl : (R.reverse ++ [x]).length = R.length + 1 := by simp
          rw [hpl] at c11 hk hsr
          have hpop := hsr.ok.pop
          have hxu := mem_unused.1 hpop.2.1
          obtain ⟨y, rfl⟩ : ∃ y : Nat, x = (y : Int) := ⟨x.toNat, by omega⟩
          have hy : y ≤ 256 := by have := hsr.fine.len; have := hsr.fine.most; omega
          have HPOP := Go.Lib.hid (fun w1 (hb : Below wr.heap.size wr w1) => pop_c b Im C vf _ R.reverse (y : Int) w1 (hsr.below hb))
          have hE : Hid (backP C ((y : Int) :: R) = if 0 < aboveM (maskL (leftL C R.reverse)) y then some (R.reverse ++ [((aboveM (maskL (leftL C R.reverse)) y : Nat) : Int)]) else backP C R) := rfl
          have HBK := Go.Lib.hid hbk
          have HNB := Go.Lib.hid hnb
          clear hbk hnb
          go_wp2
          refine wp_region_S (fun _ => True) [6, 5] [(0, 0), (0, 1), (0, 2), (0, 3), (1, 4), (2, 5), (2, 6)] (by kernel_rfl) (by kernel_rfl) (by trivial) ?_
          dsimp only [pickOps, nthOp]
          repeat (first | (refine wpS_skip rfl (fun K hK => ?_); go_big_quiet_op; refine hK _ ?_; clear hK K) | (refine wpS_quiet rfl rfl (fun K hK => ?_); go_big_quiet_op; refine hK _ ?_; clear hK K) | (refine wpS_loud ?_; go_wp2_with (first | (go_at_call 54; refine (HPOP.out _ (keep_drew (Below.refl _ _))).mono ?_; rintro _ w5 ⟨rfl, vp5, hsr5, hst5, hk5⟩) | (go_at_call 53; refine (above_c b 5 (maskL (leftL C R.reverse)) y w5 hsr5.set hy).mono ?_; rintro _ w6 ⟨rfl, rfl⟩)); refine ⟨?_, ?_⟩; focus (trivial)))
          refine wpS_late _ _ _ rfl ?_
          dsimp only [List.map]
          go_wp2_with (first | (go_at_call 54; refine (HPOP.out _ (keep_drew (Below.refl _ _))).mono ?_; rintro _ w5 ⟨rfl, vp5, hsr5, hst5, hk5⟩) | (go_at_call 53; refine (above_c b 5 (maskL (leftL C R.reverse)) y w5 hsr5.set hy).mono ?_; rintro _ w6 ⟨rfl, rfl⟩))
          refine NoPanic.normal ?_
          obtain ⟨vp6, hsr6, hst6, hk6⟩ : Stepped w w5 b Im C vf vp R.reverse := Stepped.trans hst.drew hk ⟨vp5, hsr5, hst5, hk5⟩
          clear HPOP hsr5 hst5 hk5 hsr
          by_cases hab : 0 < aboveM (maskL (leftL C R.reverse)) y
          · have hal := above_left hab
            have HPU := Go.Lib.hid (push_c b Im C vf vp6 R.reverse _ w5 hsr6 hpop.2.2.2 hal.1 hal.2)
            have hab2 : (0 : Int) < ((aboveM (maskL (leftL C R.reverse)) y : Nat) : Int) := by omega
            have hEQ : Hid (nextP C P = some (R.reverse ++ [((aboveM (maskL (leftL C R.reverse)) y : Nat) : Int)])) := HNB.out.trans (HBK.out.symm.trans (hE.out.trans (if_pos hab)))
            clear hal
            go_wp2_with (go_at_call 52; refine HPU.out.mono ?_; rintro _ w7 ⟨rfl, hs7⟩)
            go_ret
            rw [hEQ.out]
            exact ⟨rfl, Stepped.trans hst6 hk6 hs7⟩
          · have hab2 : ¬ (0 : Int) < ((aboveM (maskL (leftL C R.reverse)) y : Nat) : Int) := by omega
            go_wp2
            go_roundg (R.length + 1)
            case measure => simp
            case rel => exact ⟨R, rfl, (hE.out.trans (if_neg hab)).symm.trans HBK.out, vp6, hsr6, hst6, hk6⟩
    · have hw' : wrongB C P = false := by simpa using hw
      rw [hw'] at HW
      have hl : P.length < C.O.length := by
        have := H.out.ok.len
        have : P.length ≠ C.O.length := fun e => by rw [e] at hfull'; simp at hfull'
        omega
      have ha := above_first he H.out.fine hl
      have hal := above_left ha
      have HP := Go.Lib.hid (fun w1 (hb : Below w.heap.size w w1) => push_c b Im C vf vp P _ w1 (H.out.below hb) hl hal.1 hal.2)
      have hE : Hid (nextP C P = some (P ++ [((aboveM (maskL (leftL C P)) 0 : Nat) : Int)])) := if_pos ⟨hfull', hw'⟩
      clear hal
      go_wp2_with (first | (go_at_call 42; refine HF.out.mono ?_; rintro _ w1 ⟨rfl, hb1⟩) | (go_at_call 40; refine (HW.out _ hb1).mono ?_; rintro _ w2 ⟨rfl, hb2⟩) | (go_at_call 53; refine (HA.out _ (hb1.trans (hb2.mono hb1.size))).mono ?_; rintro _ w3 ⟨rfl, rfl⟩) | (go_at_call 52; refine (HP.out _ (hb1.trans (hb2.mono hb1.size))).mono ?_; rintro _ w4 ⟨rfl, hs4⟩))
      go_ret
      rw [hE.out]
      exact ⟨rfl, Stepped.trans (Below.stays (hb1.trans (hb2.mono hb1.size)) _) (fun k e => .inl e) hs4⟩

end Go.Proofs.Ytcblpobiefmjmaa
