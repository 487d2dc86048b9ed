/- A range over a function whose iterator keeps state of its own in cells: the law. -/
import Derived.Test.YtcblpobiefmjmaaC14
import Derived.Lib.Hide
import Derived.RangeFuncNested
import Derived.RangeFuncLeaves
import Derived.RangeFuncCalls
import Derived.OwnWalkIn
import Derived.TacticsInMore
import Derived.LoopNIn
import Derived.LoopIn
namespace Go.Proofs.Ytcblpobiefmjmaa
open Go Go.RowKit

/-- What the loop's own book-keeping and the iterator keep: of the blocks that are not in M, those below L and those that hold cells. -/
structure StaysL (L : Nat) (M : Nat → Prop) (w w' : World) : Prop where
  os : w'.os = w.os
  tape : w'.tape = w.tape
  output : w'.output = w.output
  size : w.heap.size ≤ w'.heap.size
  block : ∀ k o, w.heap[k]? = some o → ¬ M k → (k < L ∨ o.isCells = true) → w'.heap[k]? = some o

theorem Stays.toL {M : Nat → Prop} {w w' : World} (h : Stays M w w') (L : Nat) : StaysL L M w w' :=
  ⟨h.os, h.tape, h.output, h.size, fun k _ ho hm _ => (h.block k (Array.getElem?_eq_some_iff.1 ho).1 hm).trans ho⟩

theorem StaysL.putObj {L : Nat} (M : Nat → Prop) {w : World} {l : Nat} {o : Obj} (o' : Obj) (hL : L ≤ l) (hl : w.heap[l]? = some o) (ho : o.isCells = false) : StaysL L M w (w.putObj l o') :=
  ⟨rfl, rfl, rfl, by simp, fun k o2 h2 _ hk => by
    have : k ≠ l := by
      rintro rfl
      rw [hl] at h2; cases h2
      rcases hk with h | h
      · omega
      · rw [ho] at h; cases h
    exact (World.putObj_heap_other this).trans h2⟩

theorem StaysL.alloc (L : Nat) (M : Nat → Prop) (w : World) (o : Obj) : StaysL L M w (w.alloc o) :=
  ⟨rfl, rfl, rfl, by simp, fun k o2 h2 _ _ => (Below.heap_alloc w o k (Array.getElem?_eq_some_iff.1 h2).1).trans h2⟩

theorem StaysL.trans {L : Nat} {M : Nat → Prop} {a b c : World} (h : StaysL L M a b) (k : StaysL L M b c) : StaysL L M a c :=
  ⟨k.os.trans h.os, k.tape.trans h.tape, k.output.trans h.output, Nat.le_trans h.size k.size, fun i o hi hm hc => k.block i o (h.block i o hi hm hc) hm hc⟩

theorem StaysL.owns {L : Nat} {M : Nat → Prop} {w w' : World} (h : StaysL L M w w') {base : Nat} {e : TypeId} {size : Nat} {v : Value} {n : Nat} {xs : List Value} (ho : w.ownsRow base e size v n xs) (hm : ∀ k, v.ownBlock = some k → ¬ M k) : w'.ownsRow base e size v n xs := by
  refine ⟨ho.1, ho.2.imp id ?_⟩
  rintro ⟨g, cap, cur, rfl, hb, hh, r⟩
  exact ⟨g, cap, cur, rfl, hb, h.block g _ hh (hm g rfl) (.inr rfl), r⟩

theorem StaysL.at {L : Nat} {M : Nat → Prop} {w w' : World} (h : StaysL L M w w') {b : Nat} {vs : Array Value} {t : TypeId} {r : Nat × Nat} (hb : w.heap[b]? = some (.cells vs t r)) (hm : ¬ M b) : w'.heap[b]? = some (.cells vs t r) :=
  h.block b _ hb hm (.inr rfl)

theorem StaysL.below {L : Nat} {M : Nat → Prop} {w w' : World} (h : StaysL L M w w') {B : Nat} {w0 : World} (hb : Below B w0 w) (hL : B ≤ L) (h0 : B ≤ w0.heap.size) (hm : ∀ k, M k → B ≤ k) : Below B w0 w' :=
  ⟨h.os.trans hb.os, h.tape.trans hb.tape, h.output.trans hb.output, Nat.le_trans hb.size h.size, fun k hk => by
    have h1 := hb.block k hk
    have h2 : k < w0.heap.size := by omega
    rw [Array.getElem?_eq_getElem h2] at h1 ⊢
    exact h.block k _ h1 (fun e => by have := hm k e; omega) (.inl (by omega))⟩

def StableL {β : Type} (L : Nat) (J : β → (Nat → Prop) → World → Prop) : Prop :=
  ∀ s M M' W W', J s M W → StaysL L M W W' → (∀ k, M' k → M k ∨ W.heap.size ≤ k) → J s M' W'

def StableM {β : Type} (J : β → (Nat → Prop) → World → Prop) : Prop :=
  ∀ s M M' W W', J s M W → Stays M W W' → (∀ k, M' k → M k ∨ W.heap.size ≤ k) → J s M' W'

theorem StableL.m {β : Type} {L : Nat} {J : β → (Nat → Prop) → World → Prop} (h : StableL L J) : StableM J := fun s M M' W W' hj hs hm => h s M M' W W' hj (hs.toL L) hm

/-- The contract of an iterator. M: the blocks that it turns between two rounds; Given: what a round may know of what it is handed; Kp: what a round that goes on keeps. -/
def SeqM {α : Type} (P : Program) (g : Nat) (lb : Array Value) (encs : α → Array Value) (New : α → World → Prop) (Given : α → (Nat → Prop) → World → Prop) (Kp : (Nat → Prop) → World → World → Prop) (S Sp : List α → Prop) (M0 : Nat → Prop) (w0 : World) : Prop :=
  ∀ (l : Nat) (J Jx : List α → (Nat → Prop) → World → Prop) (W : World), Below w0.heap.size w0 W → StableM J → StableM Jx →
    (∀ pre x M W0 W1, J pre M W0 → Below W0.heap.size W0 W1 → New x W0 → Given x M W1 → YieldAt Fence.wide 0 P l (encs x) W1 fun e W' =>
      (e = .returned (.bool true) ∧ J (pre ++ [x]) M W' ∧ Kp M W1 W') ∨ (e = .returned (.bool false) ∧ Jx (pre ++ [x]) M W' ∧ Kp M W1 W')) →
    J [] M0 W →
    Calls P g (#[.func (.yield l) #[] #[]] ++ lb) W fun e W' => (∃ v, e = .returned v) ∧ ((∃ xs M, S xs ∧ J xs M W') ∨ (∃ pre M, Sp pre ∧ Jx pre M W'))

/-- How the body of a round may be left. -/
def ownPostM {α : Type} (Kp : (Nat → Prop) → World → World → Prop) (I : List α → (Nat → Prop) → World → Prop) (Ix : Code → List α → (Nat → Prop) → World → Prop) (xs : List α) (M : Nat → Prop) (W : World) : Exit → Act → World → Prop
  | .normal, _, W' => KeepsOthers W W' ∧ Kp M W W' ∧ I xs M W'
  | .ret, _, W' => KeepsOthers W W' ∧ Kp M W W' ∧ Ix .ret xs M W'
  | .exit id, _, W' => KeepsOthers W W' ∧ Kp M W W' ∧ Ix (.exit id) xs M W'
  | .goto t, _, W' => KeepsOthers W W' ∧ Kp M W W' ∧ Ix (.goto t) xs M W'
  | .panic _, _, _ => False
  | .outgrown, _, _ => False

variable {P : Program}

theorem wp_rangeFunc_M {α : Type} {g : Operand} {ps : Array Tmp} {assign body : Code} {Q : Exit → Act → World → Prop} {a : Act} {w : World}
    {gf : Nat} {lb : Array Value} (hg : a.eval g = .func (.func gf) #[] lb) (eg : ∀ args w, (callFunc gf args).run P w = .ok (.enter gf args) w)
    {encs : α → Array Value} {New : α → World → Prop} {Given : α → (Nat → Prop) → World → Prop} {Kp : (Nat → Prop) → World → World → Prop} {S Sp : List α → Prop} {M0 : Nat → Prop} (hseq : SeqM P gf lb encs New Given Kp S Sp M0 w)
    (hM0 : ∀ k, M0 k → k < w.heap.size)
    (hGb : ∀ x M (W : World) l o o', Given x M W → w.heap.size ≤ l → ¬ M l → W.heap[l]? = some o → o.isCells = false → Given x M (W.putObj l o'))
    (hKt : ∀ {M : Nat → Prop} {A B C : World}, Kp M A B → Kp M B C → Kp M A C) (hKb : ∀ (M : Nat → Prop) (W : World) (l : Nat) (o o' : Obj), w.heap.size ≤ l → ¬ M l → W.heap[l]? = some o → o.isCells = false → Kp M W (W.putObj l o')) (hps : ∀ x, (encs x).size = ps.size)
    (I : List α → (Nat → Prop) → World → Prop) (Ix : Code → List α → (Nat → Prop) → World → Prop) (hI : StableL w.heap.size I) (hIx : ∀ c, StableL w.heap.size (Ix c)) (h0 : I [] M0 w) (a₁ : α → Act)
    (hassign : ∀ (l : Nat) (x : α) (W : World) (K : Act → World → Prop), K (a₁ x) W →
      assign.wpIn (Fence.wide.inRound l) 0 P (Exit.then K (fun _ _ _ => False)) { tmps := (ps.zip (encs x)).foldl (fun t (p, v) => t.setIfInBounds p v) a.tmps, defers := [] } W)
    (hbody : ∀ (l : Nat) (pre : List α) (x : α) (M : Nat → Prop) (W0 W : World), I pre M W0 → StaysL w.heap.size (fun _ => False) W0 W → New x W0 → Given x M W → body.wpIn (Fence.wide.inRound l) 0 P (ownPostM Kp I Ix (pre ++ [x]) M W) (a₁ x) W)
    (hdone : ∀ (D : Nat) (xs : List α) (M : Nat → Prop) (W : World), w.heap.size ≤ D → S xs → I xs M W → W.heap[D]? = some (.deferred (some [])) → Q .normal { a with defers := { target := .collected D, args := #[] } :: a.defers } W)
    (hstop : ∀ (D : Nat) (c : Code) (pre : List α) (M : Nat → Prop) (W : World), w.heap.size ≤ D → Sp pre → Ix c pre M W → W.heap[D]? = some (.deferred (some [])) → c.wp P Q { a with defers := { target := .collected D, args := #[] } :: a.defers } W) :
    (Code.rangeFunc g ps assign body).wp P Q a w := by
  refine (wpIn_wide (n := 0)).1 (wpIn_rangeFunc ?_)
  intro fn hfn
  rw [show Fence.wide.round = none from rfl]
  obtain ⟨rec, hrec⟩ : ∃ rec : LoopState → Option Code → Loop, rec = fun st pe => { state := st, pending := pe, fn, tmps := a.tmps, params := ps, assign, body, defers := w.heap.size } := ⟨_, rfl⟩
  obtain ⟨W1, hW1⟩ : ∃ W1, (w.alloc (.deferred (some []))).alloc (.loop (rec .ready none)) = W1 := ⟨_, rfl⟩
  have hL1 : W1.heap[w.heap.size + 1]? = some (.loop (rec .ready none)) := by
    rw [← hW1]; have := World.alloc_heap_new (w.alloc (.deferred (some []))) (.loop (rec .ready none)); rwa [World.size_alloc] at this
  have hK1 : W1.heap[w.heap.size]? = some (.deferred (some [])) := by
    rw [← hW1]; exact (Below.heap_alloc _ _ _ (by simp)).trans (World.alloc_heap_new w _)
  have hI1 : I [] M0 W1 := by
    rw [← hW1]
    exact hI _ M0 M0 _ _ (hI _ M0 M0 _ _ h0 (StaysL.alloc _ _ _ _) (fun k h => .inl h)) (StaysL.alloc _ _ _ _) (fun k h => .inl h)
  have hb1 : Below w.heap.size w W1 := by
    rw [← hW1]; exact ((Below.refl _ w).alloc (Nat.le_refl _) _).alloc (by simp) _
  have hm1 : ¬ M0 (w.heap.size + 1) := fun h => by have := hM0 _ h; omega
  have hm2 : ¬ M0 w.heap.size := fun h => by have := hM0 _ h; omega
  refine ⟨w.heap.size + 1, [{ target := .collected w.heap.size, args := #[] }], W1, { target := .fn (.func gf) lb, args := #[.func (.yield (w.heap.size + 1)) #[] #[]] }, W1, gf,
    #[.func (.yield (w.heap.size + 1)) #[] #[]] ++ lb, W1, ?_, ?_, ?_, ?_, ?_, ?_⟩
  · rw [← hW1, hrec]; exact run_enterLoop_outer _ _ _ _ _
  · simp only [resolve, hg]
    simp [go_sem]
  · intro f' hf'; exact trivial
  · simp [invoke, go_sem, eg]
  · intro h; exact absurd h (by simp [Fence.wide])
  · refine callsIn_wide.2 ?_
    refine (hseq (w.heap.size + 1)
      (fun pre M W => I pre M W ∧ W.heap[w.heap.size + 1]? = some (.loop (rec .ready none)) ∧ W.heap[w.heap.size]? = some (.deferred (some [])) ∧ ¬ M (w.heap.size + 1) ∧ ¬ M w.heap.size)
      (fun pre M W => ∃ c, Ix c pre M W ∧ W.heap[w.heap.size + 1]? = some (.loop (rec .done (some c))) ∧ W.heap[w.heap.size]? = some (.deferred (some [])) ∧ ¬ M (w.heap.size + 1) ∧ ¬ M w.heap.size)
      W1 hb1 ?_ ?_ ?_ ⟨hI1, hL1, hK1, hm1, hm2⟩).mono ?_
    · rintro s M M' A B ⟨hi, hl, hk, h1, h2⟩ hs hm
      have hlt := (Array.getElem?_eq_some_iff.1 hl).1
      refine ⟨hI.m s M M' A B hi hs hm, (hs.block _ hlt h1).trans hl, (hs.block _ (by omega) h2).trans hk, fun e => (hm _ e).elim h1 (fun h => by omega), fun e => (hm _ e).elim h2 (fun h => by omega)⟩
    · rintro s M M' A B ⟨c, hi, hl, hk, h1, h2⟩ hs hm
      have hlt := (Array.getElem?_eq_some_iff.1 hl).1
      refine ⟨c, (hIx c).m s M M' A B hi hs hm, (hs.block _ hlt h1).trans hl, (hs.block _ (by omega) h2).trans hk, fun e => (hm _ e).elim h1 (fun h => by omega), fun e => (hm _ e).elim h2 (fun h => by omega)⟩
    · rintro pre x M W0 W ⟨hi, hl0, hk0, h1, h2⟩ hbl hnew hgiv
      have hlt0 : w.heap.size + 1 < W0.heap.size := (Array.getElem?_eq_some_iff.1 hl0).1
      have hl := (hbl.block _ hlt0).trans hl0
      have hk := (hbl.block _ (show w.heap.size < W0.heap.size by omega)).trans hk0
      have hlt : w.heap.size + 1 < W.heap.size := (Array.getElem?_eq_some_iff.1 hl).1
      have hy := run_yield (P := P) (args := encs x) hl (by rw [hrec]; exact hps x)
      rw [hrec] at hy
      refine ⟨fn, _, assign, body, hy, roundIn_of_wpIn hfn (hassign _ x W _ ⟨_, run_beginRound hl (by rw [hrec]), ?_⟩)⟩
      have hl2 : (W.putObj (w.heap.size + 1) (.loop { rec .ready none with state := .busy })).heap[w.heap.size + 1]? = some (.loop { rec .ready none with state := .busy }) := World.putObj_heap_same hlt
      have hk2 : (W.putObj (w.heap.size + 1) (.loop { rec .ready none with state := .busy })).heap[w.heap.size]? = some (.deferred (some [])) := (World.putObj_heap_other (by omega)).trans hk
      have hw2 : Kp M W (W.putObj (w.heap.size + 1) (.loop { rec .ready none with state := .busy })) := hKb _ _ _ _ _ (by omega) h1 hl rfl
      refine wpIn_mono (hbody _ pre x M W0 _ hi (((Below.stays hbl (fun _ => False)).toL _).trans (StaysL.putObj _ _ (by omega) hl rfl)) hnew (hGb _ _ _ _ _ _ hgiv (by omega) h1 hl rfl)) ?_
      have fin : ∀ (jump : Option Code) (W3 : World), KeepsOthers (W.putObj (w.heap.size + 1) (.loop { rec .ready none with state := .busy })) W3 →
          (Instr.endRound (w.heap.size + 1) jump).run P W3 = .ok (.bool jump.isNone) (W3.putObj (w.heap.size + 1) (.loop (rec (if jump.isNone then .ready else .done) jump))) ∧
          W3.heap[w.heap.size + 1]? = some (.loop { rec .ready none with state := .busy }) ∧
          (W3.putObj (w.heap.size + 1) (.loop (rec (if jump.isNone then .ready else .done) jump))).heap[w.heap.size + 1]? = some (.loop (rec (if jump.isNone then .ready else .done) jump)) ∧
          (W3.putObj (w.heap.size + 1) (.loop (rec (if jump.isNone then .ready else .done) jump))).heap[w.heap.size]? = some (.deferred (some [])) := fun jump W3 hk3 => by
        have hl3 := hk3.same _ _ hl2 rfl
        have := run_endRound (P := P) jump hl3
        rw [hrec] at this ⊢
        exact ⟨this, by rw [hrec] at hl3; exact hl3, World.putObj_heap_same (Array.getElem?_eq_some_iff.1 hl3).1, (World.putObj_heap_other (by omega)).trans (hk3.same _ _ hk2 rfl)⟩
      rintro e a3 W3 hp
      cases e with
      | normal =>
        obtain ⟨hk3, hkp3, hi3⟩ := hp
        obtain ⟨hr, hl3, hl4, hk4⟩ := fin none W3 hk3
        exact ⟨_, _, hr, .inl ⟨rfl, ⟨hI _ M M _ _ hi3 (StaysL.putObj M _ (by omega) hl3 rfl) (fun k h => .inl h), hl4, hk4, h1, h2⟩, hKt (hKt hw2 hkp3) (hKb _ _ _ _ _ (by omega) h1 hl3 rfl)⟩⟩
      | ret =>
        obtain ⟨hk3, hkp3, hi3⟩ := hp
        obtain ⟨hr, hl3, hl4, hk4⟩ := fin (some .ret) W3 hk3
        exact ⟨_, _, hr, .inr ⟨rfl, ⟨.ret, hIx _ _ M M _ _ hi3 (StaysL.putObj M _ (by omega) hl3 rfl) (fun k h => .inl h), hl4, hk4, h1, h2⟩, hKt (hKt hw2 hkp3) (hKb _ _ _ _ _ (by omega) h1 hl3 rfl)⟩⟩
      | exit id =>
        obtain ⟨hk3, hkp3, hi3⟩ := hp
        obtain ⟨hr, hl3, hl4, hk4⟩ := fin (some (.exit id)) W3 hk3
        exact ⟨_, _, hr, .inr ⟨rfl, ⟨.exit id, hIx _ _ M M _ _ hi3 (StaysL.putObj M _ (by omega) hl3 rfl) (fun k h => .inl h), hl4, hk4, h1, h2⟩, hKt (hKt hw2 hkp3) (hKb _ _ _ _ _ (by omega) h1 hl3 rfl)⟩⟩
      | goto t =>
        obtain ⟨hk3, hkp3, hi3⟩ := hp
        obtain ⟨hr, hl3, hl4, hk4⟩ := fin (some (.goto t)) W3 hk3
        exact ⟨_, _, hr, .inr ⟨rfl, ⟨.goto t, hIx _ _ M M _ _ hi3 (StaysL.putObj M _ (by omega) hl3 rfl) (fun k h => .inl h), hl4, hk4, h1, h2⟩, hKt (hKt hw2 hkp3) (hKb _ _ _ _ _ (by omega) h1 hl3 rfl)⟩⟩
      | panic ch => exact hp.elim
      | outgrown => exact hp.elim
    · rintro e W2 ⟨⟨v, rfl⟩, (⟨xs, M, hS, hi, hl, hk, h1, h2⟩ | ⟨pre, M, hSp, c, hi, hl, hk, h1, h2⟩)⟩
      · exact ⟨none, _, by have := run_endLoop (P := P) hl (by rw [hrec]; simp); rw [hrec] at this; exact this, hdone _ xs M _ (Nat.le_refl _) hS (hI _ M M _ _ hi (StaysL.putObj M _ (by omega) hl rfl) (fun k h => .inl h)) ((World.putObj_heap_other (by omega)).trans hk)⟩
      · exact ⟨some c, _, by have := run_endLoop (P := P) hl (by rw [hrec]; simp); rw [hrec] at this; exact this, wpIn_wide.2 (hstop _ c pre M _ (Nat.le_refl _) hSp (hIx c _ M M _ _ hi (StaysL.putObj M _ (by omega) hl rfl) (fun k h => .inl h)) ((World.putObj_heap_other (by omega)).trans hk))⟩

end Go.Proofs.Ytcblpobiefmjmaa
