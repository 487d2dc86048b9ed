/- The iterator over a search's solutions has its contract. -/
import Derived.Test.YtcblpobiefmjmaaC30
import Derived.Test.YtcblpobiefmjmaaI1
import Derived.RangeFuncBound
namespace Go.Proofs.Ytcblpobiefmjmaa
open Go Go.RowKit
attribute [local go_sem] over_cell
attribute [local go_sem] Oper.semAt_some

theorem wide_fn (f : FuncId) : Fence.wide.fn f := trivial
theorem wide_depth : Fence.wide.depth = none := rfl
theorem wide_all {o : Option FuncId} : ∀ f, o = some f → Fence.wide.fn f := fun _ _ => trivial

/-- What is found of a whole task. -/
def sols (C : Cst) (P : List Int) : List (List Int) := if C.O.length = 0 then (if wrongB C P = true then [] else [fillP C P]) else found C P

/-- The blocks that a search leans on. -/
def KbS (Im : Nat → Prop) (bx : Nat) (M : Nat → Prop) (k : Nat) : Prop := Im k ∨ M k ∨ k = bx

def KpS (Im : Nat → Prop) (bx : Nat) (M : Nat → Prop) (A B : World) : Prop := A.heap.size ≤ B.heap.size ∧ ∀ k, k < A.heap.size → KbS Im bx M k → B.heap[k]? = A.heap[k]?

def NewS (x : Value × List Int) (W0 : World) : Prop := ∀ k, x.1.ownBlock = some k → W0.heap.size ≤ k

def GivenS (Im : Nat → Prop) (bx base : Nat) (x : Value × List Int) (M : Nat → Prop) (W : World) : Prop :=
  W.ownsRow base 3 1 x.1 x.2.length (x.2.map (Value.int .i64)) ∧ (∀ k, x.1.ownBlock = some k → ¬ KbS Im bx M k) ∧ ∀ k, M k → k < W.heap.size

def encS (x : Value × List Int) : Array Value := #[x.1]

theorem GivenS.putObj {Im : Nat → Prop} {bx base : Nat} {x : Value × List Int} {M : Nat → Prop} {W : World} {l : Nat} {o o' : Obj} (h : GivenS Im bx base x M W) (hl : W.heap[l]? = some o) (ho : o.isCells = false) : GivenS Im bx base x M (W.putObj l o') :=
  ⟨(StaysL.putObj (L := l) (fun _ => False) o' (Nat.le_refl _) hl ho).owns h.1 (fun _ _ e => e), h.2.1, fun k hk => Nat.lt_of_lt_of_le (h.2.2 k hk) (grownBy_putObj' W l o').size⟩

theorem KpS.trans {Im : Nat → Prop} {bx : Nat} {M : Nat → Prop} {A B C : World} (h : KpS Im bx M A B) (k : KpS Im bx M B C) : KpS Im bx M A C :=
  ⟨Nat.le_trans h.1 k.1, fun i hi hk => (k.2 i (Nat.lt_of_lt_of_le hi h.1) hk).trans (h.2 i hi hk)⟩

theorem KpS.putObj {Im : Nat → Prop} {bx : Nat} {M : Nat → Prop} {W : World} {l n : Nat} (o' : Obj) (hI : ∀ k, Im k → k < n) (hbx : bx < n) (hl : n ≤ l) (hm : ¬ M l) : KpS Im bx M W (W.putObj l o') :=
  ⟨by simp, fun k _ hk => World.putObj_heap_other (by
    rintro rfl
    rcases hk with hk | hk | hk
    · have := hI _ hk; omega
    · exact hm hk
    · omega)⟩

/-- What touches other blocks alone. -/
theorem KpS.setCell {Im : Nat → Prop} {bx : Nat} {M : Nat → Prop} {W : World} {b i : Nat} (v : Value) (hb : ¬ KbS Im bx M b) : KpS Im bx M W (W.setCell ⟨b, i, none⟩ v) :=
  ⟨(KeepsOthers.setCell W _ v).size, fun k _ hk => Below.heap_setCell _ _ _ _ (fun e => hb (by simp only at e; rw [← e]; exact hk))⟩
theorem KpS.refl {Im : Nat → Prop} {bx : Nat} {M : Nat → Prop} (W : World) : KpS Im bx M W W := ⟨Nat.le_refl _, fun _ _ _ => rfl⟩
theorem KpS.below {Im : Nat → Prop} {bx : Nat} {M : Nat → Prop} {A B : World} (h : Below A.heap.size A B) : KpS Im bx M A B := ⟨h.size, fun k hk _ => h.block k hk⟩

def SolRel (b bx base : Nat) (Im : Nat → Prop) (C : Cst) (vf : Value) (J : List (Value × List Int) → (Nat → Prop) → World → Prop) (L : List (List Int)) (wr : World) (k : Nat) : Prop :=
  ∃ pre P vp, k = fuelP C P ∧ SR wr b Im C vf vp P ∧ wr.cell? ⟨bx, 0, none⟩ = some (.pointer (some ⟨b, 0, none⟩)) ∧ bx < wr.heap.size ∧ ¬ Mut b vf vp bx ∧ base ≤ wr.heap.size ∧ J pre (Mut b vf vp) wr ∧ pre.map Prod.snd ++ found C P = L

theorem Mut.new {b : Nat} {vf vp vp' : Value} {n : Nat} (h : ∀ k, vp'.ownBlock = some k → vp.ownBlock = some k ∨ n ≤ k) : ∀ k, Mut b vf vp' k → Mut b vf vp k ∨ n ≤ k := by
  rintro k (e | e | e)
  · exact .inl (.inl e)
  · exact .inl (.inr (.inl e))
  · exact (h k e).imp (fun e => .inr (.inr e)) id

theorem SR.mutLt {w : World} {b : Nat} {Im : Nat → Prop} {C : Cst} {vf vp : Value} {P : List Int} (h : SR w b Im C vf vp P) {k : Nat} (hk : Mut b vf vp k) : k < w.heap.size := by
  rcases hk with e | e | e
  · rw [e]; exact h.lt
  · exact (h.f.lt _ e).2
  · exact (h.p.lt _ e).2

/-- All that is known between two calls of a round of the search. -/
def Bun (b bx base : Nat) (Im : Nat → Prop) (C : Cst) (vf : Value) (J : List (Value × List Int) → (Nat → Prop) → World → Prop) (P : List Int) (pre : List (Value × List Int)) (vp : Value) (w : World) : Prop :=
  w.cell? ⟨bx, 0, none⟩ = some (.pointer (some ⟨b, 0, none⟩)) ∧ bx < w.heap.size ∧ b < w.heap.size ∧ base ≤ w.heap.size ∧ ¬ Mut b vf vp bx ∧ Hid (SR w b Im C vf vp P) ∧ Hid (J pre (Mut b vf vp) w)

theorem Bun.below {b bx base : Nat} {Im : Nat → Prop} {C : Cst} {vf : Value} {J : List (Value × List Int) → (Nat → Prop) → World → Prop} {P : List Int} {pre : List (Value × List Int)} {vp : Value} {w w' : World} (hJ : StableM J)
    (h : Bun b bx base Im C vf J P pre vp w) (hb : Below w.heap.size w w') : Bun b bx base Im C vf J P pre vp w' := by
  obtain ⟨h1, h2, h3, h4, h5, h6, h7⟩ := h
  have hs := hb.size
  exact ⟨((bcell hb).1 _ _ h2).trans h1, by omega, by omega, by omega, h5, Go.Lib.hid (h6.out.below hb), Go.Lib.hid (hJ _ _ _ _ _ h7.out (Below.stays hb _) (fun k e => .inl e))⟩

theorem Bun.rel {b bx base : Nat} {Im : Nat → Prop} {C : Cst} {vf : Value} {J : List (Value × List Int) → (Nat → Prop) → World → Prop} {P : List Int} {pre : List (Value × List Int)} {vp : Value} {w : World} {L : List (List Int)}
    (h : Bun b bx base Im C vf J P pre vp w) (hL : pre.map Prod.snd ++ found C P = L) : SolRel b bx base Im C vf J L w (fuelP C P) := by
  obtain ⟨h1, h2, h3, h4, h5, h6, h7⟩ := h
  exact ⟨pre, P, vp, rfl, h6.out, h1, h2, h5, h4, h7.out, hL⟩

theorem SolRel.meas {b bx base : Nat} {Im : Nat → Prop} {C : Cst} {vf : Value} {J : List (Value × List Int) → (Nat → Prop) → World → Prop} {L : List (List Int)} {w : World} {k m n : Nat}
    (h : SolRel b bx base Im C vf J L w k) (hk : k < m) (hm : n = m) : leastOf (SolRel b bx base Im C vf J L w) < n := by
  rw [hm]
  exact Nat.lt_of_le_of_lt ((leastOf_spec ⟨k, h⟩).2 k h) hk

set_option maxRecDepth 100000 in
set_option maxHeartbeats 2000000 in
theorem sol1_c (b bx base : Nat) (Im : Nat → Prop) (C : Cst) (vf vp : Value) (P : List Int) (W : World) (h : SR W b Im C vf vp P) (he : Even C) (hx : W.cell? ⟨bx, 0, none⟩ = some (.pointer (some ⟨b, 0, none⟩))) (hbx : bx < W.heap.size) (hnb : ¬ Mut b vf vp bx) (hbase : base ≤ W.heap.size)
    (l : Nat) (J Jx : List (Value × List Int) → (Nat → Prop) → World → Prop) (hJ : StableM J)
    (hY : ∀ pre x M W0 W1, J pre M W0 → Below W0.heap.size W0 W1 → NewS x W0 → GivenS Im bx base x M W1 → YieldAt Fence.wide 0 Try.prog l (encS x) W1 fun e W' =>
      (e = .returned (.bool true) ∧ J (pre ++ [x]) M W' ∧ KpS Im bx M W1 W') ∨ (e = .returned (.bool false) ∧ Jx (pre ++ [x]) M W' ∧ KpS Im bx M W1 W'))
    (h0 : J [] (Mut b vf vp) W) :
    Calls Try.prog 39 #[.func (.yield l) #[] #[], .pointer (some ⟨bx, 0, none⟩)] W fun e W' => (∃ v, e = .returned v) ∧
      ((∃ xs M, xs.map Prod.snd = sols C P ∧ J xs M W') ∨ (∃ pre M, (pre.map Prod.snd <+: sols C P ∧ pre ≠ []) ∧ Jx pre M W')) := by
  have c4 := h.c4
  have hlt := h.lt
  have H := Go.Lib.hid h
  have HJ := Go.Lib.hid hJ
  have HY := Go.Lib.hid hY
  have H0 := Go.Lib.hid h0
  have HE := Go.Lib.hid he
  clear h hJ hY h0 he
  by_cases hO : C.O.length = 0
  · have hOb : (((C.O.length : Nat) : Int) == 0) = true := by rw [beq_iff_eq]; omega
    have HW := Go.Lib.hid ((wrong_c b Im C vf vp P W H.out).mono (fun e w' hh => And.intro hh.1 (Bun.below (b := b) (bx := bx) (base := base) (Im := Im) (C := C) (vf := vf) (J := J) (P := P) (pre := []) (vp := vp) HJ.out ⟨hx, hbx, hlt, hbase, hnb, H, H0⟩ hh.2)))
    obtain ⟨af, nf, cf, rfl⟩ : ∃ af nf cf, vf = .slice af nf cf := by
      obtain ⟨a, c, e⟩ := owns_shape H.out.f
      exact ⟨_, _, _, e⟩
    by_cases hw : wrongB C P = true
    · have HS : Hid (sols C P = []) := by unfold Hid sols; rw [if_pos hO, if_pos hw]
      rw [hw] at HW
      clear hO hw
      refine (callsIn_wide (n := 0)).1 (callsIn_of_wp Try.func39 rfl trivial ?_ rfl)
      simp only [Try.ntmps39, List.size_toArray, List.length_cons, List.length_nil, Nat.reduceAdd, Nat.reduceSub, Array.replicate_succ, Array.replicate_zero, List.push_toArray, List.append_toArray, List.nil_append, List.cons_append]
      gi_wp2_with (first | (with_reducible refine ⟨wide_fn _, ?_⟩) | (with_reducible refine ⟨wide_depth, ?_⟩) | (with_reducible refine ⟨wide_all, ?_⟩) | (gi_at_call 40; refine (callsIn_wide.2 HW.out).mono ?_; rintro _ w3 ⟨rfl, hx3, hbx3, hlt3, hbs3, hm3, HS3, HJ3⟩; have c10 := HS3.out.c10))
      refine bodyPost_ret (results_none rfl _ _ _) rfl ?_
      exact ⟨⟨_, rfl⟩, .inl ⟨[], _, by rw [HS.out]; rfl, HJ3.out⟩⟩
    · have HS : Hid (sols C P = [fillP C P]) := by unfold Hid sols; rw [if_pos hO, if_neg hw]
      have hw' : wrongB C P = false := by simpa using hw
      have HC := Go.Lib.hid (fun w3 vp2 (hb : Bun b bx base Im C (.slice af nf cf) J P [] vp2 w3) => (clone_c af nf cf (fillP C P) w3 hb.2.2.2.2.2.1.out.ic.1).mono (fun e w' h => show ∃ v, e = .returned v ∧ YieldAt Fence.wide 0 Try.prog l #[v] w' (fun e W' => (e = .returned (.bool true) ∧ Hid (∃ xs M, xs.map Prod.snd = [fillP C P] ∧ J xs M W')) ∨ (e = .returned (.bool false) ∧ Hid (∃ pre' M, (pre'.map Prod.snd <+: [fillP C P] ∧ pre' ≠ []) ∧ Jx pre' M W'))) from by
        obtain ⟨v, he, hown, hbl⟩ := h
        refine ⟨v, he, ?_⟩
        obtain ⟨h1, h2, h3, h4, h5, h6, h7⟩ := hb
        refine YieldAt.mono (HY.out [] (v, fillP C P) _ w3 w' h7.out hbl (fun k e => (hown.lt k e).1) ⟨owns_up (owns_base hown (Nat.zero_le _)) (fun k e => by have := (hown.lt k e).1; omega), fun k e hk => ?_, fun k hk => Nat.lt_of_lt_of_le (h6.out.mutLt hk) hbl.size⟩) ?_
        · have hge := (hown.lt k e).1
          rcases hk with hk | hk | hk
          · have := h6.out.imLt k hk; omega
          · have := h6.out.mutLt hk; omega
          · omega
        · rintro e5 W5 (⟨he5, hJ5, hk5⟩ | ⟨he5, hJ5, _⟩)
          · exact .inl ⟨he5, Go.Lib.hid ⟨_, _, rfl, hJ5⟩⟩
          · exact .inr ⟨he5, Go.Lib.hid ⟨_, _, ⟨List.prefix_refl _, by simp⟩, hJ5⟩⟩))
      rw [hw'] at HW
      clear hO hw hw'
      refine (callsIn_wide (n := 0)).1 (callsIn_of_wp Try.func39 rfl trivial ?_ rfl)
      simp only [Try.ntmps39, List.size_toArray, List.length_cons, List.length_nil, Nat.reduceAdd, Nat.reduceSub, Array.replicate_succ, Array.replicate_zero, List.push_toArray, List.append_toArray, List.nil_append, List.cons_append]
      gi_wp2_with (first | (with_reducible refine ⟨wide_fn _, ?_⟩) | (with_reducible refine ⟨wide_depth, ?_⟩) | (with_reducible refine ⟨wide_all, ?_⟩) | (gi_at_call 40; refine (callsIn_wide.2 HW.out).mono ?_; rintro _ w3 ⟨rfl, hx3, hbx3, hlt3, hbs3, hm3, HS3, HJ3⟩; have c10 := HS3.out.c10) | (gi_at_call 22; refine (callsIn_wide.2 (HC.out _ _ ⟨hx3, hbx3, hlt3, hbs3, hm3, HS3, HJ3⟩)).mono ?_; rintro _ w4 ⟨v4, rfl, fn, tmps, assign, body, hy, hR⟩))
      refine hR.mono ?_
      rintro e5 w5 (⟨rfl, hr5⟩ | ⟨rfl, hr5⟩)
      · gi_wp2_with (first | (with_reducible refine ⟨wide_fn _, ?_⟩) | (with_reducible refine ⟨wide_depth, ?_⟩) | (with_reducible refine ⟨wide_all, ?_⟩))
        refine bodyPost_ret (results_none rfl _ _ _) rfl ?_
        obtain ⟨xs, M, h1, h2⟩ := hr5.out
        exact ⟨⟨_, rfl⟩, .inl ⟨xs, M, by rw [HS.out]; exact h1, h2⟩⟩
      · gi_wp2_with (first | (with_reducible refine ⟨wide_fn _, ?_⟩) | (with_reducible refine ⟨wide_depth, ?_⟩) | (with_reducible refine ⟨wide_all, ?_⟩))
        refine bodyPost_ret (results_none rfl _ _ _) rfl ?_
        obtain ⟨pre', M, h1, h2⟩ := hr5.out
        exact ⟨⟨_, rfl⟩, .inr ⟨pre', M, by rw [HS.out]; exact h1, h2⟩⟩
  · have hOb : (((C.O.length : Nat) : Int) == 0) = false := by rw [beq_eq_false_iff_ne]; omega
    have HS : Hid (sols C P = found C P) := if_neg hO
    have HO := Go.Lib.hid hO
    clear hO
    refine (callsIn_wide (n := 0)).1 (callsIn_of_wp Try.func39 rfl trivial ?_ rfl)
    simp only [Try.ntmps39, List.size_toArray, List.length_cons, List.length_nil, Nat.reduceAdd, Nat.reduceSub, Array.replicate_succ, Array.replicate_zero, List.push_toArray, List.append_toArray, List.nil_append, List.cons_append]
    gi_wp2
    gi_loopw [] (fun wr => ∃ k, SolRel b bx base Im C vf J (found C P) wr k) (fun wr => leastOf (SolRel b bx base Im C vf J (found C P) wr))
    case atStart => exact ⟨_, [], P, vp, rfl, H.out, hx, hbx, hnb, hbase, H0.out, by simp⟩
    case round =>
      have hsp := (leastOf_spec hrel).1
      have HK := Go.Lib.hid (rfl : leastOf (SolRel b bx base Im C vf J (found C P) wr) = leastOf (SolRel b bx base Im C vf J (found C P) wr))
      obtain ⟨pre, P1, vp1, hk1, hsr, hx1, hbx1, hnb1, hbase1, hJ1, hfound⟩ := hsp
      clear hrel
      have hlt1 := hsr.lt
      have HFD := Go.Lib.hid hfound
      have HJ1 := Go.Lib.hid hJ1
      have HK1 := Go.Lib.hid hk1
      clear hfound hJ1 hk1
      have HST := Go.Lib.hid (found_step HE.out hsr.fine hsr.ok)
      cases hn : nextP C P1 with
      | none =>
        have HN : Hid (Calls Try.prog 41 #[.pointer (some ⟨b, 0, none⟩)] wr fun e w' => e = .returned (.bool false) ∧ Stepped wr w' b Im C vf vp1 []) := by
          have := next_c b Im C vf vp1 P1 wr hsr HE.out
          rw [hn] at this
          exact this
        have HST2 : Hid (found C P1 = []) := by have := HST.out; rw [hn] at this; exact this
        clear hn HST hsr
        gi_wp2_with (first | (with_reducible refine ⟨wide_fn _, ?_⟩) | (with_reducible refine ⟨wide_depth, ?_⟩) | (with_reducible refine ⟨wide_all, ?_⟩) | (gi_at_call 41; refine (callsIn_wide.2 HN.out).mono ?_; rintro _ w1 ⟨rfl, vp2, hsr2, hst2, hk2⟩))
        go_end0
        refine ⟨⟨_, rfl⟩, .inl ⟨pre, _, ?_, HJ.out _ _ _ _ _ HJ1.out hst2 (Mut.new hk2)⟩⟩
        have := HFD.out
        rw [HST2.out, List.append_nil] at this
        rw [this, HS.out]
      | some P2 =>
        have HN : Hid (Calls Try.prog 41 #[.pointer (some ⟨b, 0, none⟩)] wr fun e w' => e = .returned (.bool true) ∧ ∃ vp2, Bun b bx base Im C vf J P2 pre vp2 w') := by
          have := next_c b Im C vf vp1 P1 wr hsr HE.out
          rw [hn] at this
          refine this.mono ?_
          rintro e w1 ⟨he, vp2, hsr2, hst2, hk2⟩
          have hs := hst2.size
          exact ⟨he, vp2, (hst2.cell hbx1 hnb1).trans hx1, by omega, hsr2.lt, by omega, fun e => (Mut.new hk2 bx e).elim hnb1 (fun h => by omega), Go.Lib.hid hsr2, Go.Lib.hid (HJ.out _ _ _ _ _ HJ1.out hst2 (Mut.new hk2))⟩
        have HST2 : Hid (found C P1 = (if (P2.length == C.O.length) = true ∧ wrongB C P2 = false then [fillP C P2] else []) ++ found C P2) := by have := HST.out; rw [hn] at this; exact this
        have HLT := Go.Lib.hid (fuelP_lt HE.out hsr.fine hsr.ok hn)
        have HF := Go.Lib.hid (fun w1 vp2 (hb : Bun b bx base Im C vf J P2 pre vp2 w1) => (full_c b Im C vf vp2 P2 w1 hb.2.2.2.2.2.1.out).mono (fun e w' h => And.intro h.1 (hb.below HJ.out h.2)))
        obtain ⟨af, nf, cf, rfl⟩ : ∃ af nf cf, vf = .slice af nf cf := by
          obtain ⟨a, c, e⟩ := owns_shape hsr.f
          exact ⟨_, _, _, e⟩
        have HC := Go.Lib.hid (fun w3 vp2 (hb : Bun b bx base Im C (.slice af nf cf) J P2 pre vp2 w3) (hL : ∀ v, (pre ++ [(v, fillP C P2)]).map Prod.snd ++ found C P2 = found C P) => (clone_c af nf cf (fillP C P2) w3 hb.2.2.2.2.2.1.out.ic.1).mono (fun e w' h => show ∃ v, e = .returned v ∧ YieldAt Fence.wide 0 Try.prog l #[v] w' (fun e W' => (e = .returned (.bool true) ∧ Hid (SolRel b bx base Im C (.slice af nf cf) J (found C P) W' (fuelP C P2))) ∨ (e = .returned (.bool false) ∧ Hid (∃ pre' M, (pre'.map Prod.snd <+: found C P ∧ pre' ≠ []) ∧ Jx pre' M W'))) from by
          obtain ⟨v, he, hown, hbl⟩ := h
          refine ⟨v, he, ?_⟩
          have hb4 := hb.below HJ.out hbl
          obtain ⟨h1, h2, h3, h4, h5, h6, h7⟩ := hb
          refine YieldAt.mono (HY.out pre (v, fillP C P2) _ w3 w' h7.out hbl (fun k e => (hown.lt k e).1) ⟨owns_up (owns_base hown (Nat.zero_le _)) (fun k e => by have := (hown.lt k e).1; omega), fun k e hk => ?_, fun k hk => Nat.lt_of_lt_of_le (h6.out.mutLt hk) hbl.size⟩) ?_
          · have hge := (hown.lt k e).1
            rcases hk with hk | hk | hk
            · have := h6.out.imLt k hk; omega
            · have := h6.out.mutLt hk; omega
            · omega
          · rintro e5 W5 (⟨he5, hJ5, hk5⟩ | ⟨he5, hJ5, _⟩)
            · refine .inl ⟨he5, Go.Lib.hid ?_⟩
              obtain ⟨g1, g2, g3, g4, g5, g6, g7⟩ := hb4
              exact ⟨_, P2, vp2, rfl, g6.out.keep hk5.1 (fun k hlt hk => hk5.2 k hlt (hk.imp id .inl)), (World.cell?_of_block (hk5.2 bx g2 (.inr (.inr rfl)))).trans g1, Nat.lt_of_lt_of_le g2 hk5.1, g5, Nat.le_trans g4 hk5.1, hJ5, hL v⟩
            · refine .inr ⟨he5, Go.Lib.hid ⟨_, _, ⟨⟨found C P2, hL v⟩, by simp⟩, hJ5⟩⟩))
        have HW := Go.Lib.hid (fun w1 vp2 (hb : Bun b bx base Im C (.slice af nf cf) J P2 pre vp2 w1) => (wrong_c b Im C (.slice af nf cf) vp2 P2 w1 hb.2.2.2.2.2.1.out).mono (fun e w' h => And.intro h.1 (hb.below HJ.out h.2)))
        clear hn HST hsr HJ1
        by_cases hf : (P2.length == C.O.length) = true
        · by_cases hw : wrongB C P2 = true
          · have HL2 : Hid (pre.map Prod.snd ++ found C P2 = found C P) := by
              have h1 := HST2.out
              rw [if_neg (fun e => by rw [hw] at e; exact absurd e.2 (by decide)), List.nil_append] at h1
              exact h1 ▸ HFD.out
            rw [hf] at HF
            rw [hw] at HW
            clear hf hw HC
            gi_wp2_with (first | (with_reducible refine ⟨wide_fn _, ?_⟩) | (with_reducible refine ⟨wide_depth, ?_⟩) | (with_reducible refine ⟨wide_all, ?_⟩) | (gi_at_call 41; refine (callsIn_wide.2 HN.out).mono ?_; rintro _ w1 ⟨rfl, vp2, hx1, hbx1, hlt1, hbs1, hm1, HS1, HJ1⟩) | (gi_at_call 42; refine (callsIn_wide.2 (HF.out _ _ ⟨hx1, hbx1, hlt1, hbs1, hm1, HS1, HJ1⟩)).mono ?_; rintro _ w2 ⟨rfl, hx2, hbx2, hlt2, hbs2, hm2, HS2, HJ2⟩) | (gi_at_call 40; refine (callsIn_wide.2 (HW.out _ _ ⟨hx2, hbx2, hlt2, hbs2, hm2, HS2, HJ2⟩)).mono ?_; rintro _ w3 ⟨rfl, hx3, hbx3, hlt3, hbs3, hm3, HS3, HJ3⟩; have c10 := HS3.out.c10))
            go_roundw
            case rel => exact ⟨_, Bun.rel ⟨hx3, hbx3, hlt3, hbs3, hm3, HS3, HJ3⟩ HL2.out⟩
            case measure => exact (Bun.rel ⟨hx3, hbx3, hlt3, hbs3, hm3, HS3, HJ3⟩ HL2.out).meas HLT.out HK1.out
          · have hw' : wrongB C P2 = false := by simpa using hw
            have HL2 : Hid (∀ v, (pre ++ [(v, fillP C P2)]).map Prod.snd ++ found C P2 = found C P) := fun v => by
              have h1 := HST2.out
              rw [if_pos ⟨hf, hw'⟩] at h1
              have h2 := h1 ▸ HFD.out
              simpa using h2
            have HC2 := Go.Lib.hid (fun w3 vp2 (hb : Bun b bx base Im C (.slice af nf cf) J P2 pre vp2 w3) => HC.out w3 vp2 hb HL2.out)
            rw [hf] at HF
            rw [hw'] at HW
            clear hf hw hw' HC
            gi_wp2_with (first | (with_reducible refine ⟨wide_fn _, ?_⟩) | (with_reducible refine ⟨wide_depth, ?_⟩) | (with_reducible refine ⟨wide_all, ?_⟩) | (gi_at_call 41; refine (callsIn_wide.2 HN.out).mono ?_; rintro _ w1 ⟨rfl, vp2, hx1, hbx1, hlt1, hbs1, hm1, HS1, HJ1⟩) | (gi_at_call 42; refine (callsIn_wide.2 (HF.out _ _ ⟨hx1, hbx1, hlt1, hbs1, hm1, HS1, HJ1⟩)).mono ?_; rintro _ w2 ⟨rfl, hx2, hbx2, hlt2, hbs2, hm2, HS2, HJ2⟩) | (gi_at_call 40; refine (callsIn_wide.2 (HW.out _ _ ⟨hx2, hbx2, hlt2, hbs2, hm2, HS2, HJ2⟩)).mono ?_; rintro _ w3 ⟨rfl, hx3, hbx3, hlt3, hbs3, hm3, HS3, HJ3⟩; have c10 := HS3.out.c10) | (gi_at_call 22; refine (callsIn_wide.2 (HC2.out _ _ ⟨hx3, hbx3, hlt3, hbs3, hm3, HS3, HJ3⟩)).mono ?_; rintro _ w4 ⟨v4, rfl, fn, tmps, assign, body, hy, hR⟩))
            refine hR.mono ?_
            rintro e5 w5 (⟨rfl, hr5⟩ | ⟨rfl, hr5⟩)
            · gi_wp2_with (first | (with_reducible refine ⟨wide_fn _, ?_⟩) | (with_reducible refine ⟨wide_depth, ?_⟩) | (with_reducible refine ⟨wide_all, ?_⟩))
              go_roundw
              case rel => exact ⟨_, hr5.out⟩
              case measure => exact hr5.out.meas HLT.out HK1.out
            · gi_wp2_with (first | (with_reducible refine ⟨wide_fn _, ?_⟩) | (with_reducible refine ⟨wide_depth, ?_⟩) | (with_reducible refine ⟨wide_all, ?_⟩))
              refine bodyPost_ret (results_none rfl _ _ _) rfl ?_
              obtain ⟨pre', M, h1, h2⟩ := hr5.out
              exact ⟨⟨_, rfl⟩, .inr ⟨pre', M, by rw [HS.out]; exact h1, h2⟩⟩
        · have hf' : (P2.length == C.O.length) = false := by simpa using hf
          have HL2 : Hid (pre.map Prod.snd ++ found C P2 = found C P) := by
            have h1 := HST2.out
            rw [if_neg (fun e => by rw [hf'] at e; exact absurd e.1 (by decide)), List.nil_append] at h1
            exact h1 ▸ HFD.out
          rw [hf'] at HF
          clear hf hf' HC HW
          gi_wp2_with (first | (with_reducible refine ⟨wide_fn _, ?_⟩) | (with_reducible refine ⟨wide_depth, ?_⟩) | (with_reducible refine ⟨wide_all, ?_⟩) | (gi_at_call 41; refine (callsIn_wide.2 HN.out).mono ?_; rintro _ w1 ⟨rfl, vp2, hx1, hbx1, hlt1, hbs1, hm1, HS1, HJ1⟩) | (gi_at_call 42; refine (callsIn_wide.2 (HF.out _ _ ⟨hx1, hbx1, hlt1, hbs1, hm1, HS1, HJ1⟩)).mono ?_; rintro _ w2 ⟨rfl, hx2, hbx2, hlt2, hbs2, hm2, HS2, HJ2⟩))
          go_roundw
          case rel => exact ⟨_, Bun.rel ⟨hx2, hbx2, hlt2, hbs2, hm2, HS2, HJ2⟩ HL2.out⟩
          case measure => exact (Bun.rel ⟨hx2, hbx2, hlt2, hbs2, hm2, HS2, HJ2⟩ HL2.out).meas HLT.out HK1.out

/-- The iterator of a search has its contract. -/
theorem sol_seq (b bx base : Nat) (Im : Nat → Prop) (C : Cst) (vf vp : Value) (P : List Int) (W : World) (h : SR W b Im C vf vp P) (he : Even C) (hx : W.cell? ⟨bx, 0, none⟩ = some (.pointer (some ⟨b, 0, none⟩))) (hbx : bx < W.heap.size) (hnb : ¬ Mut b vf vp bx) (hbase : base ≤ W.heap.size) :
    SeqM Try.prog 39 #[.pointer (some ⟨bx, 0, none⟩)] encS NewS (GivenS Im bx base) (KpS Im bx) (fun xs => xs.map Prod.snd = sols C P) (fun pre => pre.map Prod.snd <+: sols C P ∧ pre ≠ []) (Mut b vf vp) W :=
  fun l J Jx W1 hb hJ _ hY h0 => sol1_c b bx base Im C vf vp P W1 (h.below hb) he (((bcell hb).1 _ _ hbx).trans hx) (Nat.lt_of_lt_of_le hbx hb.size) hnb (Nat.le_trans hbase hb.size) l J Jx hJ hY h0

end Go.Proofs.Ytcblpobiefmjmaa
