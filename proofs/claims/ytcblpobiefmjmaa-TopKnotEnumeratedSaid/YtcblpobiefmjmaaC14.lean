/- What a search holds in memory; what its steps keep. -/
import Derived.Test.YtcblpobiefmjmaaC13
import Derived.OneCell
namespace Go.Proofs.Ytcblpobiefmjmaa
open Go Go.RowKit
attribute [local go_sem] over_cell

/-- Of the old blocks only those in S may have turned. -/
structure Stays (S : Nat → Prop) (w w' : World) : Prop where
  os : w'.os = w.os
  tape : w'.tape = w.tape
  output : w'.output = w.output
  size : w.heap.size ≤ w'.heap.size
  block : ∀ k, k < w.heap.size → ¬ S k → w'.heap[k]? = w.heap[k]?

theorem Stays.refl (S : Nat → Prop) (w : World) : Stays S w w := ⟨rfl, rfl, rfl, Nat.le_refl _, fun _ _ _ => rfl⟩

theorem Stays.trans {S T : Nat → Prop} {a b c : World} (h : Stays S a b) (k : Stays T b c) (ht : ∀ i, T i → S i ∨ a.heap.size ≤ i) : Stays S a c :=
  ⟨k.os.trans h.os, k.tape.trans h.tape, k.output.trans h.output, Nat.le_trans h.size k.size, fun i hi hs =>
    (k.block i (Nat.lt_of_lt_of_le hi h.size) (fun t => (ht i t).elim hs (fun e => by omega))).trans (h.block i hi hs)⟩

theorem Stays.mono {S T : Nat → Prop} {a b : World} (h : Stays S a b) (hs : ∀ i, S i → T i) : Stays T a b :=
  ⟨h.os, h.tape, h.output, h.size, fun i hi ht => h.block i hi (fun s => ht (hs i s))⟩

theorem Stays.drew {S : Nat → Prop} {a w : World} (h : Stays S a w) : Stays S a w.drew := ⟨h.os, h.tape, h.output, h.size, h.block⟩

theorem Below.stays {w w' : World} (h : Below w.heap.size w w') (S : Nat → Prop) : Stays S w w' := ⟨h.os, h.tape, h.output, h.size, fun k hk _ => h.block k hk⟩

theorem Stays.below {S : Nat → Prop} {w w' : World} (h : Stays S w w') {B : Nat} (hB : B ≤ w.heap.size) (hs : ∀ k, S k → B ≤ k) : Below B w w' :=
  ⟨h.os, h.tape, h.output, h.size, fun k hk => h.block k (by omega) (fun e => by have := hs k e; omega)⟩

theorem Stays.setCell {S : Nat → Prop} (w : World) {p : Addr} (hp : S p.block) (u : Value) : Stays S w (w.setCell p u) :=
  ⟨rfl, rfl, rfl, by simp [World.setCell], fun k _ hs => Below.heap_setCell _ _ _ _ (fun e => hs (e ▸ hp))⟩

theorem Stays.grown {S : Nat → Prop} {w w' : World} {row : Option Nat} (hg : w.grownBy w' row) (hr : ∀ k, row = some k → S k) : Stays S w w' :=
  ⟨hg.os, hg.tape, hg.output, hg.size, fun k hk hs => hg.block k hk (fun e => hs (hr k e.symm))⟩

theorem Stays.cell {S : Nat → Prop} {w w' : World} (h : Stays S w w') {b o : Nat} (hb : b < w.heap.size) (hs : ¬ S b) : w'.cell? ⟨b, o, none⟩ = w.cell? ⟨b, o, none⟩ :=
  World.cell?_of_block (h.block b hb hs)

theorem Stays.frozen {S : Nat → Prop} {w w' : World} (h : Stays S w w') {b o : Nat} (hb : b < w.heap.size) (hs : ¬ S b) : w'.frozen? ⟨b, o, none⟩ = w.frozen? ⟨b, o, none⟩ :=
  World.frozen?_of_block (h.block b hb hs)

/-- What holds in each world that has these blocks as w has them. -/
def Sure (Im : Nat → Prop) (w : World) (φ : World → Prop) : Prop := ∀ w', w.heap.size ≤ w'.heap.size → (∀ k, Im k → w'.heap[k]? = w.heap[k]?) → φ w'

theorem Sure.here {Im : Nat → Prop} {w : World} {φ : World → Prop} (h : Sure Im w φ) : φ w := h w (Nat.le_refl _) fun _ _ => rfl

theorem Sure.keep {Im : Nat → Prop} {w w' : World} {φ : World → Prop} (h : Sure Im w φ) (hs : w.heap.size ≤ w'.heap.size) (hb : ∀ k, Im k → w'.heap[k]? = w.heap[k]?) : Sure Im w' φ :=
  fun w2 h2 hb2 => h w2 (Nat.le_trans hs h2) fun k hk => (hb2 k hk).trans (hb k hk)

/-- What a search never turns: the task, the open cells, the table of lines. -/
structure Cst where
  cells : Int
  a : Option Addr
  n : Nat
  c : Nat
  ls : List (List Int)
  sum : Int
  a' : Option Addr
  n' : Nat
  c' : Nat
  g : List Int
  ao : Option Addr
  co : Nat
  al : Nat
  cl : Nat

def Cst.O (C : Cst) : List Int := openL C.g

/-- One more than the place of the last open cell of a line. -/
def lastO (O : List Int) (l : List Int) : Nat := (List.range O.length).foldl (fun m i => if hasB l (O[i]?.getD 0) = true then i + 1 else m) 0

def Cst.tbl (C : Cst) (k : Nat) : List (List Int) := C.ls.filter (fun l => lastO C.O l == k)

structure Imm (C : Cst) (w : World) : Prop where
  o : IC w C.ao C.O.length C.O
  oc : C.O.length ≤ C.co
  t : ∀ k, k ≤ C.O.length → ∃ ak nk ck, w.cell? ⟨C.al, k, none⟩ = some (.slice ak nk ck) ∧ C.al < w.heap.size ∧ RC w ak nk (C.tbl k) ∧ nk ≤ ck

/-- What is so of the numbers of a task that is checked. -/
structure Fine (C : Cst) : Prop where
  len : C.g.length = C.n'
  most : C.n' ≤ 256
  num : ∀ k : Nat, 0 ≤ C.g[k]?.getD 0 ∧ C.g[k]?.getD 0 ≤ 256
  line : ∀ l, l ∈ C.ls → l.length ≤ 1000 ∧ ∀ x, x ∈ l → 0 ≤ x ∧ x < (C.n' : Int)

/-- The filling of a path. -/
def fillP (C : Cst) (P : List Int) : List Int := (C.O.zip P).foldl (fun f cx => f.set cx.1.toNat cx.2) C.g

/-- The numbers that are not given and not on the path. -/
def leftL (C : Cst) (P : List Int) : List Int := (unusedL C.g).filter (fun x => !hasB P x)

structure OkP (C : Cst) (P : List Int) : Prop where
  len : P.length ≤ C.O.length
  num : ∀ x, x ∈ P → x ∈ unusedL C.g
  nodup : P.Nodup

/-- What a step of a search may turn. -/
def Mut (b : Nat) (vf vp : Value) (k : Nat) : Prop := k = b ∨ vf.ownBlock = some k ∨ vp.ownBlock = some k

structure SR (w : World) (b : Nat) (Im : Nat → Prop) (C : Cst) (vf vp : Value) (P : List Int) : Prop where
  fine : Fine C
  ok : OkP C P
  imLt : ∀ k, Im k → k < w.heap.size
  sure : Sure Im w (Imm C)
  lt : b < w.heap.size
  nb : ¬ Im b
  nf : ∀ k, vf.ownBlock = some k → ¬ Im k ∧ k ≠ b
  np : ∀ k, vp.ownBlock = some k → ¬ Im k ∧ k ≠ b ∧ vf.ownBlock ≠ some k
  f : w.ownsRow 0 3 1 vf (fillP C P).length ((fillP C P).map (Value.int .i64))
  p : w.ownsRow 0 3 1 vp P.length (P.map (Value.int .i64))
  c0 : w.cell? ⟨b, 0, none⟩ = some (.int .i64 C.cells)
  c1 : w.cell? ⟨b, 1, none⟩ = some (.slice C.a C.n C.c)
  c2 : w.cell? ⟨b, 2, none⟩ = some (.int .i64 C.sum)
  c3 : w.cell? ⟨b, 3, none⟩ = some (.slice C.a' C.n' C.c')
  c4 : w.cell? ⟨b, 4, none⟩ = some (.slice C.ao C.O.length C.co)
  set : SetC w b 5 (maskL (leftL C P))
  c9 : w.cell? ⟨b, 9, none⟩ = some (.slice (some ⟨C.al, 0, none⟩) (C.O.length + 1) C.cl)
  c10 : w.cell? ⟨b, 10, none⟩ = some vf
  c11 : w.cell? ⟨b, 11, none⟩ = some vp
  fz : ∀ i, i < 12 → w.frozen? ⟨b, i, none⟩ = false

theorem owns_keep {w w' : World} {base : Nat} {e : TypeId} {size : Nat} {v : Value} {n : Nat} {xs : List Value} (h : w.ownsRow base e size v n xs) (hk : ∀ k, v.ownBlock = some k → k < w.heap.size → w'.heap[k]? = w.heap[k]?) : w'.ownsRow base e size v n xs := by
  refine ⟨h.1, h.2.imp id ?_⟩
  rintro ⟨g, cap, cur, rfl, hb, hh, r⟩
  exact ⟨g, cap, cur, rfl, hb, (hk g rfl (Array.getElem?_eq_some_iff.1 hh).1).trans hh, r⟩

/-- A world that has the blocks of a search as they were holds the search. -/
theorem SR.keep {w w' : World} {b : Nat} {Im : Nat → Prop} {C : Cst} {vf vp : Value} {P : List Int} (h : SR w b Im C vf vp P) (hs : w.heap.size ≤ w'.heap.size) (hk : ∀ k, k < w.heap.size → Im k ∨ Mut b vf vp k → w'.heap[k]? = w.heap[k]?) : SR w' b Im C vf vp P := by
  have hb : w'.heap[b]? = w.heap[b]? := hk b h.lt (.inr (.inl rfl))
  have hc : ∀ i, w'.cell? ⟨b, i, none⟩ = w.cell? ⟨b, i, none⟩ := fun i => World.cell?_of_block hb
  exact { fine := h.fine, ok := h.ok, imLt := fun k e => Nat.lt_of_lt_of_le (h.imLt k e) hs, sure := h.sure.keep hs (fun k e => hk k (h.imLt k e) (.inl e)), lt := Nat.lt_of_lt_of_le h.lt hs, nb := h.nb, nf := h.nf, np := h.np,
          f := owns_keep h.f (fun k e hlt => hk k hlt (.inr (.inr (.inl e)))), p := owns_keep h.p (fun k e hlt => hk k hlt (.inr (.inr (.inr e)))),
          c0 := (hc 0).trans h.c0, c1 := (hc 1).trans h.c1, c2 := (hc 2).trans h.c2, c3 := (hc 3).trans h.c3, c4 := (hc 4).trans h.c4, set := fun q hq => (hc (5 + q)).trans (h.set q hq), c9 := (hc 9).trans h.c9, c10 := (hc 10).trans h.c10, c11 := (hc 11).trans h.c11,
          fz := fun i hi => (World.frozen?_of_block hb).trans (h.fz i hi) }

theorem SR.below {w w' : World} {b : Nat} {Im : Nat → Prop} {C : Cst} {vf vp : Value} {P : List Int} (h : SR w b Im C vf vp P) (hb : Below w.heap.size w w') : SR w' b Im C vf vp P :=
  h.keep hb.size fun k hk _ => hb.block k hk

set_option maxRecDepth 100000 in
set_option maxHeartbeats 1000000 in
theorem full_c (b : Nat) (Im : Nat → Prop) (C : Cst) (vf vp : Value) (P : List Int) (w : World) (h : SR w b Im C vf vp P) :
    Calls Try.prog 42 #[.pointer (some ⟨b, 0, none⟩)] w fun e w' => e = .returned (.bool (P.length == C.O.length)) ∧ Below w.heap.size w w' := by
  have hlt := h.lt
  have c4 := h.c4
  have c11 := h.c11
  obtain ⟨ap, cp, rfl⟩ := owns_shape h.p
  have hE : Hid ((((P.length : Nat) : Int) == ((C.O.length : Nat) : Int)) = (P.length == C.O.length)) := by
    unfold Hid
    rw [Bool.eq_iff_iff]; simp; omega
  clear h
  go_enter Try.func42, Try.ntmps42
  go_wp2
  refine wp_region_S (fun w' => ∃ u, w' = over (w) u) [11] [(0, 0), (0, 1), (0, 2), (0, 3), (0, 4), (0, 5), (0, 6), (0, 7), (0, 8), (0, 9), (0, 10), (2, 11)] (by kernel_rfl) (by kernel_rfl) (by exact ⟨_, below_over (by repeat (first | assumption | exact Below.refl _ _ | refine keep_drew ?_ | refine keep_alloc ?_ _ | refine keep_trans ?_ (by assumption)))⟩) ?_
  dsimp only [pickOps, nthOp]
  repeat (first | (refine wpS_skip rfl (fun K hK => ?_); go_big_quiet_op; refine hK _ ?_; clear hK K) | (refine wpS_quiet rfl rfl (fun K hK => ?_); go_big_quiet_op; refine hK _ ?_; clear hK K))
  refine wpS_late _ _ _ rfl ?_
  dsimp only [List.map]
  go_wp2
  refine NoPanic.normal ?_
  go_wp2
  go_ret
  exact ⟨ret_bool hE.out, (Below.refl _ _).drew⟩

end Go.Proofs.Ytcblpobiefmjmaa
