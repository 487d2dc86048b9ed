/- Functions that hold a range over a function: the frame; what a search finds is told by the numbers alone; Count. -/
import Derived.Test.YtcblpobiefmjmaaI2
import Derived.Shelf.Abstract
namespace Go.Proofs.Ytcblpobiefmjmaa
open Go Go.RowKit Go.Shelf
attribute [local go_sem] over_cell
attribute [local go_sem] Oper.semAt_some

theorem calls_of_marks {P : Program} {f : FuncId} {fn : Func} {c : Code} {args : Array Value} {w : World} {R : Ending → World → Prop}
    (hf : P.funcs[f]? = some fn) (hb : fn.body = some c)
    (h : c.wp P (bodyPostM Fence.wide 0 P fn R) { tmps := args ++ Array.replicate (fn.ntmps - args.size) undef, defers := [] } w) : Calls P f args w R :=
  (callsIn_wide (n := 0)).1 (callsIn_of_wp_marks hf hb trivial (wpIn_wide.2 h) rfl)

theorem marks_none {P : Program} {fn : Func} {R : Ending → World → Prop} {a : Act} {w : World} {v : Value}
    (hr : (results fn a.tmps).run P w = .ok v w) (hd : a.defers = []) (hR : R (.returned v) w) : bodyPostM Fence.wide 0 P fn R .ret a w := by
  show LeavesInM Fence.wide 0 P fn a.tmps R a.defers .returning w
  rw [hd]
  exact ⟨v, hr, hR⟩

theorem marks_one {P : Program} {fn : Func} {R : Ending → World → Prop} {a : Act} {w : World} {D : Nat} {v : Value}
    (hK : w.heap[D]? = some (.deferred (some []))) (hd : a.defers = [{ target := .collected D, args := #[] }])
    (hr : (results fn a.tmps).run P (w.putObj D (.deferred none)) = .ok v (w.putObj D (.deferred none))) (hR : R (.returned v) (w.putObj D (.deferred none))) : bodyPostM Fence.wide 0 P fn R .ret a w := by
  show LeavesInM Fence.wide 0 P fn a.tmps R a.defers .returning w
  rw [hd]
  exact ⟨by simp, .inl ⟨D, _, rfl, run_takeDeferred hK, v, hr, hR⟩⟩

theorem putD_cell {w : World} {D : Nat} (hK : w.heap[D]? = some (.deferred (some []))) (p : Addr) : ((w.putObj D (.deferred none)).cell? p) = w.cell? p := by
  simp only [World.cell?]
  by_cases e : p.block = D
  · rw [e, World.putObj_heap_same (Array.getElem?_eq_some_iff.1 hK).1, hK]
  · rw [World.putObj_heap_other e]

theorem putD_below {w0 w : World} {D B : Nat} (hb : Below B w0 w) (hD : B ≤ D) : Below B w0 (w.putObj D (.deferred none)) :=
  ⟨hb.os, hb.tape, hb.output, by simpa using hb.size, fun k hk => (World.putObj_heap_other (by omega)).trans (hb.block k hk)⟩

theorem keepq {W W1 : World} {b : Nat} {o : Obj} (hb : Below W.heap.size W W1) (h : W.heap[b]? = some o) : W1.heap[b]? = some o := (hb.block b (Array.getElem?_eq_some_iff.1 h).1).trans h

theorem q_lt {W : World} {b : Nat} {o : Obj} (h : W.heap[b]? = some o) : b < W.heap.size := (Array.getElem?_eq_some_iff.1 h).1

theorem q_cell {W : World} {b : Nat} {vs : Array Value} {t : TypeId} (h : W.heap[b]? = some (.cells vs t (0, 0))) (i : Nat) : W.cell? ⟨b, i, none⟩ = vs[i]? := by
  simp [World.cell?, h]

theorem q_free {W : World} {b : Nat} {vs : Array Value} {t : TypeId} (h : W.heap[b]? = some (.cells vs t (0, 0))) (i : Nat) : W.frozen? ⟨b, i, none⟩ = false := by
  simp [World.frozen?, h]

theorem q_set {W : World} {b i : Nat} {vs : Array Value} {t : TypeId} (h : W.heap[b]? = some (.cells vs t (0, 0))) (u : Value) : (W.setCell ⟨b, i, none⟩ u).heap[b]? = some (.cells (vs.setIfInBounds i u) t (0, 0)) := by
  have hlt := q_lt h
  have h' : W.heap[b] = .cells vs t (0, 0) := by simpa [Array.getElem?_eq_getElem hlt] using h
  show (W.heap.modify b _)[b]? = _
  rw [Array.getElem?_eq_getElem (by simpa using hlt), Array.getElem_modify_self, h']
  rfl

theorem q_other {W : World} {b b' i : Nat} {o : Obj} (h : W.heap[b]? = some o) (hb : b ≠ b') (u : Value) : (W.setCell ⟨b', i, none⟩ u).heap[b]? = some o :=
  (Below.heap_setCell _ _ _ _ hb).trans h

theorem StaysL.mono {L : Nat} {M M' : Nat → Prop} {w w' : World} (h : StaysL L M w w') (hm : ∀ k, M k → M' k) : StaysL L M' w w' :=
  ⟨h.os, h.tape, h.output, h.size, fun k o ho hk => h.block k o ho (fun e => hk (hm k e))⟩

/-- The invariant in the round's own world. -/
theorem StableL.round {β : Type} {L : Nat} {J : β → (Nat → Prop) → World → Prop} (h : StableL L J) {s : β} {M : Nat → Prop} {W0 W : World} (hj : J s M W0) (hs : StaysL L (fun _ => False) W0 W) : J s M W :=
  h s M M W0 W hj (hs.mono (fun _ e => e.elim)) (fun _ e => .inl e)

/-! What abides the steps of an iterator. -/
theorem stable_and {β : Type} {L : Nat} {I J : β → (Nat → Prop) → World → Prop} (h : StableL L I) (k : StableL L J) : StableL L (fun s M W => I s M W ∧ J s M W) :=
  fun s M M' W W' hj hs hm => ⟨h s M M' W W' hj.1 hs hm, k s M M' W W' hj.2 hs hm⟩
theorem stable_pure {β : Type} {L : Nat} (p : β → Prop) : StableL L (fun s _ _ => p s) := fun _ _ _ _ _ h _ _ => h
theorem stable_ex {β γ : Type} {L : Nat} {I : γ → β → (Nat → Prop) → World → Prop} (h : ∀ x, StableL L (I x)) : StableL L (fun s M W => ∃ x, I x s M W) :=
  fun s M M' W W' ⟨x, hj⟩ hs hm => ⟨x, h x s M M' W W' hj hs hm⟩

/-- A block of the caller's own. -/
def BoxI (W : World) (M : Nat → Prop) (b : Nat) (vs : Array Value) (t : TypeId) : Prop := W.heap[b]? = some (.cells vs t (0, 0)) ∧ ¬ M b
theorem stable_box {β : Type} {L : Nat} (b : Nat) (f : β → Array Value) (t : TypeId) : StableL L (fun s M W => BoxI W M b (f s) t) :=
  fun _ _ _ _ _ ⟨h, hm⟩ hs hn => ⟨hs.at h hm, fun e => (hn b e).elim hm (fun h2 => by have := q_lt h; omega)⟩

theorem stable_size {β : Type} {L n : Nat} : StableL L (fun (_ : β) _ W => n ≤ W.heap.size) := fun _ _ _ _ _ h hs _ => Nat.le_trans h hs.size

/-- What lay before the call lies as it lay. -/
def OldI (B : Nat) (w0 W : World) (M : Nat → Prop) : Prop := Below B w0 W ∧ ∀ k, M k → B ≤ k
theorem stable_old {β : Type} {L B : Nat} {w0 : World} (hL : B ≤ L) (h0 : B ≤ w0.heap.size) : StableL L (fun (_ : β) M W => OldI B w0 W M) :=
  fun _ _ _ _ _ ⟨h, hm⟩ hs hn => ⟨hs.below h hL h0 hm, fun k e => (hn k e).elim (hm k) (fun h2 => by have := h.size; omega)⟩

/-- What is found, by the numbers alone. -/
def plC (ls : List (List Int)) (sum : Int) (g : List Int) : Cst := ⟨0, none, 0, 0, ls, sum, none, 0, 0, g, none, 0, 0, 0⟩

theorem backP_pl (C : Cst) : ∀ R, backP C R = backP (plC C.ls C.sum C.g) R
  | [] => rfl
  | x :: R => by
    have ih := backP_pl C R
    unfold backP
    rw [ih]
    rfl

theorem nextP_pl (C : Cst) (P : List Int) : nextP C P = nextP (plC C.ls C.sum C.g) P := by
  unfold nextP
  rw [backP_pl]
  rfl

theorem visit_pl (C : Cst) : ∀ k P, visit C k P = visit (plC C.ls C.sum C.g) k P
  | 0, _ => rfl
  | k + 1, P => by
    simp only [visit]
    rw [nextP_pl]
    cases nextP (plC C.ls C.sum C.g) P with
    | none => rfl
    | some P' =>
      simp only
      rw [visit_pl C k P']
      rfl

def solsL (ls : List (List Int)) (sum : Int) (g : List Int) (P : List Int) : List (List Int) := sols (plC ls sum g) P

theorem sols_pl (C : Cst) (P : List Int) : sols C P = solsL C.ls C.sum C.g P := by
  unfold solsL sols found
  rw [visit_pl]
  rfl

/-- The lines' slices, where old blocks are kept. -/
theorem old_lines {w0 w : World} {a : Option Addr} {n : Nat} {ls : List (List Int)} (h : RC w0 a n ls) (hb : Below w0.heap.size w0 w) : Sure (fun k => k < w0.heap.size) w (fun w' => ∀ i, i < n → ∃ a9 n9 c9, lineV w a i = .slice a9 n9 c9 ∧ IC w' a9 n9 (ls[i]?.getD []) ∧ n9 ≤ c9) := by
  intro w' hs hk i hi
  have h1 := h.sure w' (Nat.le_trans hb.size hs) (fun k hlt => (hk k hlt).trans (hb.block k hlt))
  obtain ⟨bl, off, a9, n9, c9, e, hl, hc, hic, hn⟩ := h1.2 i hi
  obtain ⟨bl2, off2, _, _, _, e2, hl2, _⟩ := h.2 i hi
  refine ⟨a9, n9, c9, ?_, hic, hn⟩
  rw [lineV_keep h hb i hi]
  rw [e] at e2
  simp only [Option.some.injEq, Addr.mk.injEq, and_true] at e2
  obtain ⟨rfl, rfl⟩ := e2
  subst e
  simp only [lineV]
  have h3 : w'.cell? ⟨bl, off + i, none⟩ = w0.cell? ⟨bl, off + i, none⟩ := World.cell?_of_block ((hk bl hl2).trans (hb.block bl hl2))
  rw [← h3, hc]
  rfl

theorem mut0 {b bx : Nat} {vf : Value} (h1 : bx ≠ b) (h2 : vf.ownBlock ≠ some bx) : ¬ Mut b vf (.slice none 0 0) bx := by
  rintro (e | e | e)
  · exact h1 e
  · exact h2 e
  · cases e
theorem mut0_ge {b B : Nat} {vf : Value} (h1 : B ≤ b) (h2 : ∀ k, vf.ownBlock = some k → B ≤ k) : ∀ k, Mut b vf (.slice none 0 0) k → B ≤ k := by
  rintro k (e | e | e)
  · omega
  · exact h2 k e
  · cases e

/-- A range over the solutions of a search. -/
theorem wp_range_sol {g : Operand} {p : Tmp} {assign body : Code} {Q : Exit → Act → World → Prop} {a : Act} {w : World} {b bx : Nat} {Im : Nat → Prop} {C : Cst} {vf vp : Value} {P : List Int}
    (h : SR w b Im C vf vp P) (he : Even C) (hx : w.cell? ⟨bx, 0, none⟩ = some (.pointer (some ⟨b, 0, none⟩))) (hbx : bx < w.heap.size) (hnb : ¬ Mut b vf vp bx) (hg : a.eval g = solV bx)
    (I : List (Value × List Int) → (Nat → Prop) → World → Prop) (Ix : Code → List (Value × List Int) → (Nat → Prop) → World → Prop) (hI : StableL w.heap.size I) (hIx : ∀ c, StableL w.heap.size (Ix c)) (h0 : I [] (Mut b vf vp) w) (a₁ : Value × List Int → Act)
    (hassign : ∀ (l : Nat) (x : Value × List Int) (W : World) (K : Act → World → Prop), K (a₁ x) W →
      assign.wpIn (Fence.wide.inRound l) 0 Try.prog (Exit.then K (fun _ _ _ => False)) { tmps := a.tmps.setIfInBounds p x.1, defers := [] } W)
    (hbody : ∀ (l : Nat) (pre : List (Value × List Int)) (x : Value × List Int) (M : Nat → Prop) (W0 W : World), I pre M W0 → StaysL w.heap.size (fun _ => False) W0 W → NewS x W0 → GivenS Im bx w.heap.size x M W → body.wpIn (Fence.wide.inRound l) 0 Try.prog (ownPostM (KpS Im bx) I Ix (pre ++ [x]) M W) (a₁ x) W)
    (hdone : ∀ (D : Nat) (xs : List (Value × List Int)) (M : Nat → Prop) (W : World), w.heap.size ≤ D → xs.map Prod.snd = solsL C.ls C.sum C.g P → I xs M W → W.heap[D]? = some (.deferred (some [])) → Q .normal { a with defers := { target := .collected D, args := #[] } :: a.defers } W)
    (hstop : ∀ (D : Nat) (c : Code) (pre : List (Value × List Int)) (M : Nat → Prop) (W : World), w.heap.size ≤ D → pre.map Prod.snd <+: solsL C.ls C.sum C.g P → pre ≠ [] → Ix c pre M W → W.heap[D]? = some (.deferred (some [])) → c.wp Try.prog Q { a with defers := { target := .collected D, args := #[] } :: a.defers } W) :
    (Code.rangeFunc g #[p] assign body).wp Try.prog Q a w := by
  refine wp_rangeFunc_M (gf := 39) (lb := #[.pointer (some ⟨bx, 0, none⟩)]) hg (enters_of Try.func39 (by kernel_rfl) rfl)
    (sol_seq b bx w.heap.size Im C vf vp P w h he hx hbx hnb (Nat.le_refl _)) (fun k hk => h.mutLt hk) (fun x M W l o o' hG _ _ hl ho => hG.putObj hl ho) (fun h k => h.trans k)
    (fun M W l o o' hl hm _ _ => KpS.putObj o' h.imLt hbx hl hm) (fun _ => rfl) I Ix hI hIx h0 a₁ (fun l x W K hK => by
      have e : (#[p].zip (encS x)).foldl (fun t (p, v) => t.setIfInBounds p v) a.tmps = a.tmps.setIfInBounds p x.1 := by simp [encS]
      rw [e]; exact hassign l x W K hK) hbody (fun D xs M W hD hS => hdone D xs M W hD (by rw [hS, sols_pl])) (fun D c pre M W hD hS => hstop D c pre M W hD (by rw [← sols_pl]; exact hS.1) hS.2)

end Go.Proofs.Ytcblpobiefmjmaa
