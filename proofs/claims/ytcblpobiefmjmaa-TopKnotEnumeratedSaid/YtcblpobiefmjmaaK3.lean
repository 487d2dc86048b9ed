/- The enumeration of count: what it holds in memory; the list that it visits. -/
import Derived.Test.YtcblpobiefmjmaaK2
namespace Go.Proofs.Ytcblpobiefmjmaa
open Go Go.RowKit Go.Shelf
attribute [local go_sem] over_cell

/-- All lines that end at a list's last cell have the sum. -/
def okAt (ls : List (List Int)) (sum : Int) (P : List Int) : Bool := (ls.filter (fun l => lastC l == P.length - 1)).all (fun l => sum - sumAt l P == 0)

/-- The fillings that extend P by d further numbers up to N. -/
def placeL (ls : List (List Int)) (sum : Int) (N : Nat) : Nat → List Int → List (List Int)
  | 0, P => [P]
  | d + 1, P => (List.range N).flatMap fun (i : Nat) => if hasB P ((i : Int) + 1) = true then [] else if okAt ls sum (P ++ [(i : Int) + 1]) = true then placeL ls sum N d (P ++ [(i : Int) + 1]) else []

def childL (ls : List (List Int)) (sum : Int) (N d : Nat) (P : List Int) (i : Nat) : List (List Int) :=
  if hasB P ((i : Int) + 1) = true then [] else if okAt ls sum (P ++ [(i : Int) + 1]) = true then placeL ls sum N d (P ++ [(i : Int) + 1]) else []
def accL (ls : List (List Int)) (sum : Int) (N d : Nat) (P : List Int) (m : Nat) : List (List Int) := (List.range m).flatMap (childL ls sum N d P)
theorem accL_zero (ls : List (List Int)) (sum : Int) (N d : Nat) (P : List Int) : accL ls sum N d P 0 = [] := rfl
theorem accL_succ (ls : List (List Int)) (sum : Int) (N d : Nat) (P : List Int) (m : Nat) : accL ls sum N d P (m + 1) = accL ls sum N d P m ++ childL ls sum N d P m := by
  simp [accL, List.range_succ]
theorem placeL_succ (ls : List (List Int)) (sum : Int) (N d : Nat) (P : List Int) : placeL ls sum N (d + 1) P = accL ls sum N d P N := rfl

theorem clear_set {U r : Nat} (hU : U < 18446744073709551616) (hr : r < 64) (h0 : U.testBit r = false) : (U ||| 2 ^ r) &&& (18446744073709551615 - 2 ^ r) = U := by
  refine Nat.eq_of_testBit_eq fun j => ?_
  have e64 : (2 : Nat) ^ 64 = 18446744073709551616 := by decide
  rw [Nat.testBit_and, Nat.testBit_or, Nat.testBit_two_pow, show 18446744073709551615 - 2 ^ r = 2 ^ 64 - (2 ^ r + 1) from by omega,
    Nat.testBit_two_pow_sub_succ (Nat.pow_lt_pow_right (by decide) hr), Nat.testBit_two_pow]
  by_cases e : r = j
  · subst e; simp [h0]
  · by_cases hj : j < 64
    · simp [hj, e]
    · have h1 : U.testBit j = false := Nat.testBit_lt_two_pow (Nat.lt_of_lt_of_le hU (by rw [← e64]; exact Nat.pow_le_pow_right (by decide) (by omega)))
      simp [h1, hj, e]

theorem accL_mono (ls : List (List Int)) (sum : Int) (N d : Nat) (P : List Int) {a : Nat} : ∀ {b : Nat}, a ≤ b → accL ls sum N d P a <+: accL ls sum N d P b
  | 0, h => by rw [show a = 0 from by omega]; exact List.prefix_refl _
  | b + 1, h => by
    rcases Nat.lt_or_ge a (b + 1) with h1 | h1
    · rw [accL_succ]
      exact (accL_mono ls sum N d P (show a ≤ b by omega)).trans (List.prefix_append _ _)
    · rw [show a = b + 1 from by omega]; exact List.prefix_refl _

theorem sumAt_take {l F : List Int} {K : Nat} (h : ∀ x, x ∈ l → 0 ≤ x ∧ x < (K : Int)) : sumAt l (F.take K) = sumAt l F := by
  unfold sumAt
  congr 1
  refine List.map_congr_left fun x hx => ?_
  have := h x hx
  rw [List.getElem?_take, if_pos (by omega)]

/-- The blocks of an enumeration. -/
structure NC where
  bS : Nat
  bY : Nat
  bF : Nat
  bU : Nat
  bE : Nat
  bSum : Nat
  bP : Nat
  g : Nat
  al : Nat
  N : Nat
  ls : List (List Int)
  sum : Int
  l : Nat
  Im : Nat → Prop
  M : Nat → Prop

def NC.caps (c : NC) : Array Value := #[.pointer (some ⟨c.bS, 0, none⟩), .pointer (some ⟨c.bY, 0, none⟩), .pointer (some ⟨c.bF, 0, none⟩), .pointer (some ⟨c.bU, 0, none⟩), .pointer (some ⟨c.bE, 0, none⟩), .pointer (some ⟨c.bSum, 0, none⟩), .pointer (some ⟨c.bP, 0, none⟩)]
/-- What nobody turns. -/
def NC.K (c : NC) (k : Nat) : Prop := c.Im k ∨ k = c.bS ∨ k = c.bY ∨ k = c.bF ∨ k = c.bE ∨ k = c.bSum ∨ k = c.bP
def NC.fV (c : NC) : Value := .slice (some ⟨c.g, 0, none⟩) c.N c.N

structure NFix (c : NC) : Prop where
  n1 : 1 ≤ c.N
  n2 : c.N ≤ 9
  sum1 : -1000000000000 ≤ c.sum
  sum2 : c.sum ≤ 1000000000000
  line : ∀ l, l ∈ c.ls → 0 < l.length ∧ l.length ≤ 256 ∧ ∀ x, x ∈ l → 0 ≤ x ∧ x < (c.N : Int)
  le : ∀ l, l ∈ c.ls → ∀ x, x ∈ l → x ≤ (lastC l : Int)
  apart : ∀ k, c.K k → k ≠ c.g ∧ k ≠ c.bU
  mg : c.M c.g
  mu : c.M c.bU
  gu : c.g ≠ c.bU

structure NS (c : NC) (W : World) (F : List Int) (U : Nat) : Prop where
  kLt : ∀ k, c.K k → k < W.heap.size
  cS : W.cell? ⟨c.bS, 0, none⟩ = some (.int .i64 (c.N : Int))
  qY : W.heap[c.bY]? = some (.cells #[.func (.yield c.l) #[] #[]] 60 (0, 0))
  qF : W.heap[c.bF]? = some (.cells #[c.fV] 25 (0, 0))
  qU : W.heap[c.bU]? = some (.cells #[.int .u64 (U : Int)] 63 (0, 0))
  qE : W.heap[c.bE]? = some (.cells #[.slice (some ⟨c.al, 0, none⟩) c.N c.N] 61 (0, 0))
  qSum : W.heap[c.bSum]? = some (.cells #[.int .i64 c.sum] 3 (0, 0))
  qP : W.heap[c.bP]? = some (.cells #[.func (.func 35) #[] c.caps] 64 (0, 0))
  f : W.ownsRow 0 3 1 c.fV c.N (F.map (Value.int .i64))
  num : ∀ k : Nat, 0 ≤ F[k]?.getD 0 ∧ F[k]?.getD 0 ≤ 256
  ends : Sure c.Im W (EndsT c.ls c.N c.al)
  imLt : ∀ k, c.Im k → k < W.heap.size
  mLt : ∀ k, c.M k → k < W.heap.size

theorem okAt_eq {c : NC} (hx : NFix c) {F P : List Int} {v : Int} {cell : Nat} (hP : P.length = cell) (hF : F.take (cell + 1) = P ++ [v]) : okAt c.ls c.sum (P ++ [v]) = (c.ls.filter (fun l => lastC l == cell)).all (fun l => c.sum - sumAt l F == 0) := by
  unfold okAt
  rw [List.length_append, List.length_singleton, hP, Nat.add_sub_cancel, ← hF]
  rw [Bool.eq_iff_iff, List.all_eq_true, List.all_eq_true]
  have key : ∀ l, l ∈ c.ls.filter (fun l => lastC l == cell) → sumAt l (F.take (cell + 1)) = sumAt l F := by
    intro l hl
    obtain ⟨h1, h2⟩ := List.mem_filter.1 hl
    refine sumAt_take fun x hxl => ?_
    have h3 := hx.le l h1 x hxl
    have h4 := ((hx.line l h1).2.2 x hxl).1
    have h5 : lastC l = cell := by simpa using h2
    omega
  constructor
  · intro h l hl
    rw [← key l hl]; exact h l hl
  · intro h l hl
    rw [key l hl]; exact h l hl

theorem NS.len {c : NC} {W : World} {F : List Int} {U : Nat} (h : NS c W F U) : F.length = c.N := by have := h.f.1; simpa using this

theorem NS.gLt {c : NC} {W : World} {F : List Int} {U : Nat} (h : NS c W F U) : c.g < W.heap.size := (h.f.lt c.g rfl).2
theorem NS.uLt {c : NC} {W : World} {F : List Int} {U : Nat} (h : NS c W F U) : c.bU < W.heap.size := q_lt h.qU
theorem NS.move {c : NC} {W W' : World} {F F' : List Int} {U U' : Nat} (h : NS c W F U) (hs : W.heap.size ≤ W'.heap.size) (hk : ∀ k, c.K k → W'.heap[k]? = W.heap[k]?)
    (hU : W'.heap[c.bU]? = some (.cells #[.int .u64 (U' : Int)] 63 (0, 0))) (hf : W'.ownsRow 0 3 1 c.fV c.N (F'.map (Value.int .i64))) (hn : ∀ k : Nat, 0 ≤ F'[k]?.getD 0 ∧ F'[k]?.getD 0 ≤ 256) : NS c W' F' U' where
  kLt := fun k e => Nat.lt_of_lt_of_le (h.kLt k e) hs
  cS := (World.cell?_of_block (hk _ (.inr (.inl rfl)))).trans h.cS
  qY := (hk _ (.inr (.inr (.inl rfl)))).trans h.qY
  qF := (hk _ (.inr (.inr (.inr (.inl rfl))))).trans h.qF
  qU := hU
  qE := (hk _ (.inr (.inr (.inr (.inr (.inl rfl)))))).trans h.qE
  qSum := (hk _ (.inr (.inr (.inr (.inr (.inr (.inl rfl))))))).trans h.qSum
  qP := (hk _ (.inr (.inr (.inr (.inr (.inr (.inr rfl))))))).trans h.qP
  f := hf
  num := hn
  ends := h.ends.keep hs (fun k e => hk k (.inl e))
  imLt := fun k e => Nat.lt_of_lt_of_le (h.imLt k e) hs
  mLt := fun k e => Nat.lt_of_lt_of_le (h.mLt k e) hs

/-- A world with the same blocks holds the same enumeration. -/
theorem NS.keep {c : NC} {W W' : World} {F : List Int} {U : Nat} (h : NS c W F U) (hs : W.heap.size ≤ W'.heap.size) (hk : ∀ k, c.K k ∨ k = c.g ∨ k = c.bU → W'.heap[k]? = W.heap[k]?) : NS c W' F U :=
  h.move hs (fun k e => hk k (.inl e)) ((hk _ (.inr (.inr rfl))).trans h.qU) (owns_keep h.f (fun k e _ => by cases e; exact hk _ (.inr (.inl rfl)))) h.num

theorem NS.below {c : NC} {W W' : World} {F : List Int} {U : Nat} (h : NS c W F U) (hb : Below W.heap.size W W') : NS c W' F U :=
  h.keep hb.size (fun k e => hb.block k (e.elim (h.kLt k) (fun e => e.elim (fun e => by rw [e]; exact h.gLt) (fun e => by rw [e]; exact h.uLt))))

theorem NS.setF {c : NC} {W : World} {F : List Int} {U : Nat} (hx : NFix c) (h : NS c W F U) (i : Nat) (v : Int) (h0 : 0 ≤ v) (h1 : v ≤ 256) : NS c (W.setCell ⟨c.g, i, none⟩ (.int .i64 v)) (F.set i v) U := by
  have hne : ∀ k, c.K k → k ≠ c.g := fun k e => (hx.apart k e).1
  refine h.move (by simp [World.setCell]) (fun k e => Below.heap_setCell _ _ _ _ (hne k e)) (q_other h.qU (fun e => hx.gu e.symm) _) ?_ (fun k => ?_)
  · rw [List.map_set]
    exact owns_set h.f i (.int .i64 v)
  · rw [List.getElem?_set]
    by_cases e : i = k
    · rw [if_pos e]
      by_cases e2 : i < F.length
      · rw [if_pos e2]; exact ⟨h0, h1⟩
      · rw [if_neg e2]; decide
    · rw [if_neg e]; exact h.num k

theorem NS.setU {c : NC} {W : World} {F : List Int} {U : Nat} (hx : NFix c) (h : NS c W F U) (U' : Nat) : NS c (W.setCell ⟨c.bU, 0, none⟩ (.int .u64 (U' : Int))) F U' := by
  have hne : ∀ k, c.K k → k ≠ c.bU := fun k e => (hx.apart k e).2
  refine h.move (by simp [World.setCell]) (fun k e => Below.heap_setCell _ _ _ _ (hne k e)) ?_ (ownsRow_setCell_other h.f (a := ⟨c.bU, 0, none⟩) (fun e => hx.gu (by simpa [NC.fV, Value.ownBlock] using e)) _) h.num
  have := q_set (i := 0) h.qU (.int .u64 (U' : Int))
  simpa using this

theorem NS.drew {c : NC} {W : World} {F : List Int} {U : Nat} (h : NS c W F U) : NS c W.drew F U := h.keep (Nat.le_refl _) (fun _ _ => rfl)

end Go.Proofs.Ytcblpobiefmjmaa
