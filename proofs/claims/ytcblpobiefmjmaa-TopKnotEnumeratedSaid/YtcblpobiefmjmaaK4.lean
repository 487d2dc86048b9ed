/- The enumeration of count: the last cell: the filling is handed on. -/
import Derived.Test.YtcblpobiefmjmaaK3
namespace Go.Proofs.Ytcblpobiefmjmaa
open Go Go.RowKit Go.Shelf
attribute [local go_sem] over_cell
attribute [local go_sem] Oper.semAt_some

def encN (c : NC) (_ : List Int) : Array Value := #[c.fV]
def NewN (_ : List Int) (_ : World) : Prop := True
def GivenN (c : NC) (x : List Int) (M : Nat → Prop) (W : World) : Prop := (W.ownsRow 0 3 1 c.fV c.N (x.map (Value.int .i64)) ∧ x.length = c.N) ∧ M = c.M ∧ ∀ k, M k → k < W.heap.size
def KpN (c : NC) (M : Nat → Prop) (A B : World) : Prop := A.heap.size ≤ B.heap.size ∧ ∀ k, k < A.heap.size → c.K k ∨ M k → B.heap[k]? = A.heap[k]?

theorem NS.keepN {c : NC} {W W' : World} {F : List Int} {U : Nat} (h : NS c W F U) (hx : NFix c) (hk : KpN c c.M W W') : NS c W' F U :=
  h.keep hk.1 (fun k e => by
    rcases e with e | e | e
    · exact hk.2 k (h.kLt k e) (.inl e)
    · rw [e]; exact hk.2 _ h.gLt (.inr hx.mg)
    · rw [e]; exact hk.2 _ h.uLt (.inr hx.mu))

/-- What a call of place leaves. -/
def PlaceQ (c : NC) (J Jx : List (List Int) → (Nat → Prop) → World → Prop) (pre L : List (List Int)) (cell : Nat) (F : List Int) (U : Nat) (e : Ending) (W' : World) : Prop :=
  (e = .returned (.bool true) ∧ ∃ F', NS c W' F' U ∧ F'.take cell = F.take cell ∧ J (pre ++ L) c.M W') ∨ (e = .returned (.bool false) ∧ (∃ F', NS c W' F' U) ∧ ∃ ys, (ys <+: L ∧ ys ≠ []) ∧ Jx (pre ++ ys) c.M W')

set_option maxRecDepth 100000 in
set_option maxHeartbeats 2000000 in
theorem place0_c (c : NC) (hx : NFix c) (J Jx : List (List Int) → (Nat → Prop) → World → Prop)
    (hY : ∀ pre x M W0 W1, J pre M W0 → Below W0.heap.size W0 W1 → NewN x W0 → GivenN c x M W1 → YieldAt Fence.wide 0 Try.prog c.l (encN c x) W1 fun e W' =>
      (e = .returned (.bool true) ∧ J (pre ++ [x]) M W' ∧ KpN c M W1 W') ∨ (e = .returned (.bool false) ∧ Jx (pre ++ [x]) M W' ∧ KpN c M W1 W'))
    (W : World) (F : List Int) (U : Nat) (pre : List (List Int)) (h : NS c W F U) (h0 : J pre c.M W) :
    Calls Try.prog 35 (#[.int .i64 (c.N : Int)] ++ c.caps) W (PlaceQ c J Jx pre (placeL c.ls c.sum c.N 0 (F.take c.N)) c.N F U) := by
  have cS := h.cS
  have cY := q_cell h.qY 0
  have cF := q_cell h.qF 0
  have hlen := h.len
  have hL : Hid (placeL c.ls c.sum c.N 0 (F.take c.N) = [F]) := by
    unfold Hid
    rw [List.take_of_length_le (by omega)]
    rfl
  obtain ⟨fn, tmps, assign, body, hy, hR⟩ := hY pre F c.M W W h0 (Below.refl _ _) trivial ⟨⟨h.f, hlen⟩, rfl, h.mLt⟩
  have H := Go.Lib.hid h
  have HR := Go.Lib.hid hR
  dsimp only [encN] at hy
  clear hY h0 h hR hlen
  refine (callsIn_wide (n := 0)).1 (callsIn_of_wp Try.func35 rfl trivial ?_ rfl)
  unfold NC.caps
  simp only [Try.ntmps35, List.size_toArray, List.length_cons, List.length_nil, Nat.reduceAdd, Nat.reduceSub, Array.replicate_succ, Array.replicate_zero, List.push_toArray, List.append_toArray, List.nil_append, List.cons_append]
  gi_wp2_with fail
  refine wpIn_wide.2 (wp_scope_straight ((wpIn_wide (n := 0)).1 ?_))
  gi_wp2_with (first | (with_reducible refine ⟨wide_fn _, ?_⟩) | (with_reducible refine ⟨wide_depth, ?_⟩) | (with_reducible refine ⟨wide_all, ?_⟩))
  refine HR.out.mono ?_
  rintro e5 w5 (⟨rfl, hJ5, hk5⟩ | ⟨rfl, hJ5, hk5⟩)
  · have HJ := Go.Lib.hid hJ5
    have HK := Go.Lib.hid hk5
    clear hJ5 hk5
    gi_wp2_with (first | (with_reducible refine ⟨wide_fn _, ?_⟩) | (with_reducible refine ⟨wide_depth, ?_⟩) | (with_reducible refine ⟨wide_all, ?_⟩))
    rw [Exit.noGoto_ret]
    go_ret
    refine .inl ⟨rfl, F, H.out.keepN hx HK.out, rfl, ?_⟩
    rw [hL.out]
    exact HJ.out
  · have HJ := Go.Lib.hid hJ5
    have HK := Go.Lib.hid hk5
    clear hJ5 hk5
    gi_wp2_with (first | (with_reducible refine ⟨wide_fn _, ?_⟩) | (with_reducible refine ⟨wide_depth, ?_⟩) | (with_reducible refine ⟨wide_all, ?_⟩))
    rw [Exit.noGoto_ret]
    go_ret
    refine .inr ⟨rfl, ⟨F, H.out.keepN hx HK.out⟩, [F], ⟨by rw [hL.out]; exact List.prefix_refl _, by simp⟩, HJ.out⟩

end Go.Proofs.Ytcblpobiefmjmaa
