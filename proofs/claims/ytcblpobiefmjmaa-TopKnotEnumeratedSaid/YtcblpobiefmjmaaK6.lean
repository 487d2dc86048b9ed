/- The enumeration of count as an iterator. -/
import Derived.Test.YtcblpobiefmjmaaK5
import Derived.Laws.EntriesVeiled
namespace Go.Proofs.Ytcblpobiefmjmaa
open Go Go.RowKit Go.Shelf
attribute [local go_sem] over_cell

def normV (bS bSum : Nat) : Value := .func (.func 33) #[] #[.pointer (some ⟨bS, 0, none⟩), .pointer (some ⟨bSum, 0, none⟩)]

set_option maxRecDepth 100000 in
theorem normal_c (a : Option Addr) (n c : Nat) (cells sum : Int) (w : World) :
    Calls Try.prog 21 #[.agg #[.int .i64 cells, .slice a n c], .int .i64 sum] w fun e w' => e = .returned (normV w.heap.size (w.heap.size + 1)) ∧ w' = (w.alloc (.cells #[.int .i64 cells, .slice a n c] 24)).alloc (.cells #[.int .i64 sum] 3) := by
  go_enter Try.func21, Try.ntmps21
  go_wp2
  go_ret
  exact ⟨rfl, rfl⟩

def NewF (_ : Value × List Int) (_ : World) : Prop := True
def GivenF (x : Value × List Int) (M : Nat → Prop) (W : World) : Prop := W.ownsRow 0 3 1 x.1 x.2.length (x.2.map (Value.int .i64)) ∧ x.2.length ≤ 256 ∧ ∀ k, M k → k < W.heap.size
def KpF (Prot : Nat → Prop) (M : Nat → Prop) (A B : World) : Prop := A.heap.size ≤ B.heap.size ∧ ∀ k, k < A.heap.size → Prot k ∨ M k → B.heap[k]? = A.heap[k]?

theorem infoI : (Try.prog.info? 3).map (fun i => (i.zero, i.size, i.bytes)) = some (some (.int .i64 0), 1, 8) := by kernel_rfl

theorem made_zero (N : Nat) : (madeCells (Value.int .i64 0).cells (N * 1)).toList = (List.replicate N (0 : Int)).map (Value.int .i64) := by
  rw [List.map_replicate]
  apply List.ext_getElem?
  intro i
  by_cases h : i < N
  · simp [madeCells, h, Value.cells, Nat.mod_one]
  · simp [madeCells, h]

set_option maxRecDepth 100000 in
set_option maxHeartbeats 4000000 in
theorem norm1_c (bS bSum : Nat) (a : Option Addr) (n c N : Nat) (ls : List (List Int)) (sum : Int) (W : World) (hqS : W.heap[bS]? = some (.cells #[.int .i64 (N : Int), .slice a n c] 24 (0, 0))) (hqSum : W.heap[bSum]? = some (.cells #[.int .i64 sum] 3 (0, 0)))
    (h : RC W a n ls) (hnl : n ≤ 1000000) (hN1 : 1 ≤ N) (hN2 : N ≤ 9) (hs1 : -1000000000000 ≤ sum) (hs2 : sum ≤ 1000000000000)
    (hline : ∀ l, l ∈ ls → 0 < l.length ∧ l.length ≤ 256 ∧ ∀ x, x ∈ l → 0 ≤ x ∧ x < (N : Int)) (hle : ∀ l, l ∈ ls → ∀ x, x ∈ l → x ≤ (lastC l : Int))
    (Old : Nat → Prop) (hOl : ∀ k, Old k → k < W.heap.size)
    (hOld : Sure Old W (fun w' => ∀ i, i < n → ∃ a9 n9 c9, lineV W a i = .slice a9 n9 c9 ∧ IC w' a9 n9 (ls[i]?.getD []) ∧ n9 ≤ c9))
    (l : Nat) (J Jx : List (Value × List Int) → (Nat → Prop) → World → Prop) (hJ : StableM J) (hJx : StableM Jx)
    (hY : ∀ pre x M W0 W1, J pre M W0 → Below W0.heap.size W0 W1 → NewF x W0 → GivenF x M W1 → YieldAt Fence.wide 0 Try.prog l (encS x) W1 fun e W' =>
      (e = .returned (.bool true) ∧ J (pre ++ [x]) M W' ∧ KpF (fun k => Old k ∨ k = bS ∨ k = bSum) M W1 W') ∨ (e = .returned (.bool false) ∧ Jx (pre ++ [x]) M W' ∧ KpF (fun k => Old k ∨ k = bS ∨ k = bSum) M W1 W'))
    (h0 : J [] (fun _ => False) W) :
    Calls Try.prog 33 #[.func (.yield l) #[] #[], .pointer (some ⟨bS, 0, none⟩), .pointer (some ⟨bSum, 0, none⟩)] W fun e W' => (∃ v, e = .returned v) ∧
      ((∃ xs M, xs.map Prod.snd = placeL ls sum N N [] ∧ J xs M W') ∨ (∃ pre M, (pre.map Prod.snd <+: placeL ls sum N N [] ∧ pre ≠ []) ∧ Jx pre M W')) := by
  have H := Go.Lib.hid h
  have HLINE := Go.Lib.hid hline
  have HLE := Go.Lib.hid hle
  have HOL := Go.Lib.hid hOl
  have HOLD := Go.Lib.hid hOld
  have HJ := Go.Lib.hid hJ
  have HJX := Go.Lib.hid hJx
  have HY := Go.Lib.hid hY
  have H0 := Go.Lib.hid h0
  clear h hline hle hOl hOld hJ hJx hY h0
  obtain ⟨i0, hi, hz0, hz1, hz2⟩ := info_parts infoI
  have hbS := q_lt hqS
  have hbSum := q_lt hqSum
  have fB1 : Below W.heap.size W (W.alloc (.cells #[.func (.yield l) #[] #[]] 60)) := (Below.refl _ _).alloc (Nat.le_refl _) _
  have fq1 : (W.alloc (.cells #[.func (.yield l) #[] #[]] 60)).heap[W.heap.size]? = some (.cells #[.func (.yield l) #[] #[]] 60 (0, 0)) := World.alloc_heap_new _ _
  have c0 := q_cell (keepq fB1 hqS) 0
  go_enter Try.func33, Try.ntmps33
  go_wp2_with (first | (refine wpList_make_full _ rfl _ _ 25 rfl W.heap.size 3 i0 (.int .i64 0) 1 Try.underlying25 hi hz0 hz1 _ _ _ _ N rfl rfl (by simp) (by simp) (by rw [hz2]; omega) (by unfold maxLen; omega) (by simp) ?_; intro W2 hown2 hgr2; have hB2 := (Below.refl _ _).grown hgr2 (Nat.le_refl _) (fun k e => by cases e); have hA := (Below.refl W2.heap.size W2).alloc (Nat.le_refl _) (.cells #[.slice (some ⟨W.heap.size + 1, 0, none⟩) N N] 25); have e0 := q_cell (keepq hA (keepq hB2 (keepq fB1 hqS))) 0; have e1 := q_cell (keepq hA (keepq hB2 (keepq fB1 hqS))) 1) | fail)
  simp only [World.size_alloc] at hown2
  have qS3 := keepq hA (keepq hB2 (keepq fB1 hqS))
  have qSum3 := keepq hA (keepq hB2 (keepq fB1 hqSum))
  have qY3 := keepq hA (keepq hB2 fq1)
  have qF3 : (W2.alloc (.cells #[.slice (some ⟨W.heap.size + 1, 0, none⟩) N N] 25)).heap[W2.heap.size]? = some (.cells #[.slice (some ⟨W.heap.size + 1, 0, none⟩) N N] 25 (0, 0)) := World.alloc_heap_new _ _
  have hown3 := hown2.alloc (.cells #[.slice (some ⟨W.heap.size + 1, 0, none⟩) N N] 25)
  have hB3 : Below W.heap.size W (W2.alloc (.cells #[.slice (some ⟨W.heap.size + 1, 0, none⟩) N N] 25)) := (fB1.trans (hB2.mono (by simp))).alloc (by have := hB2.size; simp at this; omega) _
  have hz2' : W.heap.size + 1 < W2.heap.size := (hown2.lt _ rfl).2
  have hz3 : W2.heap.size < (W2.alloc (.cells #[.slice (some ⟨W.heap.size + 1, 0, none⟩) N N] 25)).heap.size := q_lt qF3
  clear hA e0 e1 hB2 hgr2 hown2 fB1 fq1 c0
  generalize (W2.alloc (.cells #[.slice (some ⟨W.heap.size + 1, 0, none⟩) N N] 25)) = W3 at qS3 qSum3 qY3 qF3 hown3 hB3 hz3 ⊢
  have hOlt3 : ∀ k, Old k → k < W3.heap.size := fun k e => Nat.lt_of_lt_of_le (HOL.out k e) hB3.size
  have HEN := Go.Lib.hid (ended_c a n c N ls W3 (H.out.mono hB3) hnl (by omega) (fun l hl => ⟨(HLINE.out l hl).1, (HLINE.out l hl).2.2⟩) Old hOlt3 (fun w' hs hk i hi => by
    obtain ⟨a9, n9, c9, h9⟩ := HOLD.out w' (Nat.le_trans hB3.size hs) (fun k e => (hk k e).trans (hB3.block k (HOL.out k e))) i hi
    exact ⟨a9, n9, c9, (lineV_keep H.out hB3 i hi).trans h9.1, h9.2⟩))
  clear hOlt3
  obtain ⟨g, hg⟩ : ∃ g, g = W.heap.size + 1 := ⟨_, rfl⟩
  rw [← hg] at qF3 hown3 ⊢
  have HG := Go.Lib.hid hg
  clear hg
  go_wp2_with (go_at_call 34; refine HEN.out.mono ?_; rintro _ W4 ⟨al, rfl, hb4, hal1, hal2, hends⟩)
  have fsz : (((W4.alloc (.cells #[.slice (some ⟨al, 0, none⟩) N N] 61)).alloc (.cells #[.int .u64 0] 63)).alloc (.cells #[.func (.func 35) #[] #[.pointer (some ⟨bS, 0, none⟩), .pointer (some ⟨W.heap.size, 0, none⟩), .pointer (some ⟨W2.heap.size, 0, none⟩), .pointer (some ⟨W4.heap.size + 1, 0, none⟩), .pointer (some ⟨W4.heap.size, 0, none⟩), .pointer (some ⟨bSum, 0, none⟩), .pointer (some ⟨W4.heap.size + 1 + 1, 0, none⟩)]] 64)).heap.size = W4.heap.size + 3 := by simp only [World.size_alloc] <;> omega
  have fB : Below W4.heap.size W4 (((W4.alloc (.cells #[.slice (some ⟨al, 0, none⟩) N N] 61)).alloc (.cells #[.int .u64 0] 63)).alloc (.cells #[.func (.func 35) #[] #[.pointer (some ⟨bS, 0, none⟩), .pointer (some ⟨W.heap.size, 0, none⟩), .pointer (some ⟨W2.heap.size, 0, none⟩), .pointer (some ⟨W4.heap.size + 1, 0, none⟩), .pointer (some ⟨W4.heap.size, 0, none⟩), .pointer (some ⟨bSum, 0, none⟩), .pointer (some ⟨W4.heap.size + 1 + 1, 0, none⟩)]] 64)) := (((Below.refl _ _).alloc (Nat.le_refl _) _).alloc (by simp only [World.size_alloc]; omega) _).alloc (by simp only [World.size_alloc]; omega) _
  have fq0 : (((W4.alloc (.cells #[.slice (some ⟨al, 0, none⟩) N N] 61)).alloc (.cells #[.int .u64 0] 63)).alloc (.cells #[.func (.func 35) #[] #[.pointer (some ⟨bS, 0, none⟩), .pointer (some ⟨W.heap.size, 0, none⟩), .pointer (some ⟨W2.heap.size, 0, none⟩), .pointer (some ⟨W4.heap.size + 1, 0, none⟩), .pointer (some ⟨W4.heap.size, 0, none⟩), .pointer (some ⟨bSum, 0, none⟩), .pointer (some ⟨W4.heap.size + 1 + 1, 0, none⟩)]] 64)).heap[W4.heap.size]? = some (.cells #[.slice (some ⟨al, 0, none⟩) N N] 61 (0, 0)) := by have h := World.alloc_heap_new W4 (.cells #[.slice (some ⟨al, 0, none⟩) N N] 61); exact (Below.heap_alloc _ _ _ (by simp only [World.size_alloc]; omega)).trans ((Below.heap_alloc _ _ _ (by simp only [World.size_alloc]; omega)).trans (h))
  have fq1 : (((W4.alloc (.cells #[.slice (some ⟨al, 0, none⟩) N N] 61)).alloc (.cells #[.int .u64 0] 63)).alloc (.cells #[.func (.func 35) #[] #[.pointer (some ⟨bS, 0, none⟩), .pointer (some ⟨W.heap.size, 0, none⟩), .pointer (some ⟨W2.heap.size, 0, none⟩), .pointer (some ⟨W4.heap.size + 1, 0, none⟩), .pointer (some ⟨W4.heap.size, 0, none⟩), .pointer (some ⟨bSum, 0, none⟩), .pointer (some ⟨W4.heap.size + 1 + 1, 0, none⟩)]] 64)).heap[W4.heap.size + 1]? = some (.cells #[.int .u64 0] 63 (0, 0)) := by have h := World.alloc_heap_new (W4.alloc (.cells #[.slice (some ⟨al, 0, none⟩) N N] 61)) (.cells #[.int .u64 0] 63); simp only [World.size_alloc] at h; exact (Below.heap_alloc _ _ _ (by simp only [World.size_alloc]; omega)).trans (h)
  have fq2 : (((W4.alloc (.cells #[.slice (some ⟨al, 0, none⟩) N N] 61)).alloc (.cells #[.int .u64 0] 63)).alloc (.cells #[.func (.func 35) #[] #[.pointer (some ⟨bS, 0, none⟩), .pointer (some ⟨W.heap.size, 0, none⟩), .pointer (some ⟨W2.heap.size, 0, none⟩), .pointer (some ⟨W4.heap.size + 1, 0, none⟩), .pointer (some ⟨W4.heap.size, 0, none⟩), .pointer (some ⟨bSum, 0, none⟩), .pointer (some ⟨W4.heap.size + 1 + 1, 0, none⟩)]] 64)).heap[W4.heap.size + 1 + 1]? = some (.cells #[.func (.func 35) #[] #[.pointer (some ⟨bS, 0, none⟩), .pointer (some ⟨W.heap.size, 0, none⟩), .pointer (some ⟨W2.heap.size, 0, none⟩), .pointer (some ⟨W4.heap.size + 1, 0, none⟩), .pointer (some ⟨W4.heap.size, 0, none⟩), .pointer (some ⟨bSum, 0, none⟩), .pointer (some ⟨W4.heap.size + 1 + 1, 0, none⟩)]] 64 (0, 0)) := by have h := World.alloc_heap_new ((W4.alloc (.cells #[.slice (some ⟨al, 0, none⟩) N N] 61)).alloc (.cells #[.int .u64 0] 63)) (.cells #[.func (.func 35) #[] #[.pointer (some ⟨bS, 0, none⟩), .pointer (some ⟨W.heap.size, 0, none⟩), .pointer (some ⟨W2.heap.size, 0, none⟩), .pointer (some ⟨W4.heap.size + 1, 0, none⟩), .pointer (some ⟨W4.heap.size, 0, none⟩), .pointer (some ⟨bSum, 0, none⟩), .pointer (some ⟨W4.heap.size + 1 + 1, 0, none⟩)]] 64); simp only [World.size_alloc] at h; exact h
  generalize (((W4.alloc (.cells #[.slice (some ⟨al, 0, none⟩) N N] 61)).alloc (.cells #[.int .u64 0] 63)).alloc (.cells #[.func (.func 35) #[] #[.pointer (some ⟨bS, 0, none⟩), .pointer (some ⟨W.heap.size, 0, none⟩), .pointer (some ⟨W2.heap.size, 0, none⟩), .pointer (some ⟨W4.heap.size + 1, 0, none⟩), .pointer (some ⟨W4.heap.size, 0, none⟩), .pointer (some ⟨bSum, 0, none⟩), .pointer (some ⟨W4.heap.size + 1 + 1, 0, none⟩)]] 64)) = W5 at fsz fB fq0 fq1 fq2 ⊢
  have h2 := hB3.size
  have h4 := hb4.size
  have h5 := fB.size
  have hgE := HG.out
  obtain ⟨c0, hc0⟩ : ∃ c0 : NC, c0 = ⟨bS, W.heap.size, W2.heap.size, W4.heap.size + 1, W4.heap.size, bSum, W4.heap.size + 1 + 1, g, al, N, ls, sum, l, (fun k => Old k ∨ (W3.heap.size ≤ k ∧ k < W4.heap.size)), (fun k => W.heap.size ≤ k ∧ k < W5.heap.size)⟩ := ⟨_, rfl⟩
  have hBW5 : Below W.heap.size W W5 := (hB3.trans (hb4.mono h2)).trans (fB.mono (by omega))
  have hKb : ∀ k, c0.K k → (Old k ∨ k = bS ∨ k = bSum) ∨ (W.heap.size ≤ k ∧ k < W5.heap.size ∧ k ≠ g ∧ k ≠ W4.heap.size + 1) := by
    intro k hk
    subst hc0
    rcases hk with (e | e) | e | e | e | e | e | e
    · exact .inl (.inl e)
    · right; omega
    · exact .inl (.inr (.inl e))
    · right; simp only at e; omega
    · right; simp only at e; omega
    · right; simp only at e; omega
    · exact .inl (.inr (.inr e))
    · right; simp only at e; omega
  have hx : NFix c0 := by
    have hkk := hKb
    subst hc0
    refine { n1 := hN1, n2 := hN2, sum1 := hs1, sum2 := hs2, line := HLINE.out, le := HLE.out, apart := fun k hk => ?_, mg := ?_, mu := ?_, gu := ?_ }
    · rcases hkk k hk with e | e
      · have : k < W.heap.size := by
          rcases e with e | e | e
          · exact HOL.out k e
          · rw [e]; exact hbS
          · rw [e]; exact hbSum
        show k ≠ g ∧ k ≠ W4.heap.size + 1
        omega
      · exact ⟨e.2.2.1, e.2.2.2⟩
    · show W.heap.size ≤ g ∧ g < W5.heap.size
      omega
    · show W.heap.size ≤ W4.heap.size + 1 ∧ W4.heap.size + 1 < W5.heap.size
      omega
    · show g ≠ W4.heap.size + 1
      omega
  have hNS : NS c0 W5 (List.replicate N 0) 0 := by
    have hkk := hKb
    subst hc0
    refine { kLt := fun k hk => ?_, cS := q_cell (keepq fB (keepq hb4 qS3)) 0, qY := keepq fB (keepq hb4 qY3), qF := keepq fB (keepq hb4 qF3), qU := fq1, qE := fq0, qSum := keepq fB (keepq hb4 qSum3), qP := fq2, f := ?_, num := fun k => ?_, ends := ?_, imLt := fun k hk => ?_, mLt := fun k hk => hk.2 }
    · rcases hkk k hk with e | e
      · have : k < W.heap.size := by
          rcases e with e | e | e
          · exact HOL.out k e
          · rw [e]; exact hbS
          · rw [e]; exact hbSum
        omega
      · exact e.2.1
    · have h6 := owns_keep (w' := W5) (owns_base hown3 (Nat.zero_le _)) (fun k e hlt => (fB.block k (by omega)).trans (hb4.block k hlt))
      rw [made_zero] at h6
      exact h6
    · by_cases e : k < N
      · rw [List.getElem?_replicate, if_pos e]; decide
      · rw [List.getElem?_replicate, if_neg e]; decide
    · exact hends.keep h5 (fun k hk => fB.block k (by
        rcases hk with e | e
        · have := HOL.out k e; omega
        · exact e.2))
    · rcases hk with e | e
      · have := HOL.out k e; omega
      · omega
  have hM : c0.M = (fun k => W.heap.size ≤ k ∧ k < W5.heap.size) := by rw [hc0]
  have hl0 : c0.l = l := by rw [hc0]
  have HPL := Go.Lib.hid (place_c c0 hx (fun pre M W => J (pre.map (fun x => (c0.fV, x))) M W) (fun pre M W => Jx (pre.map (fun x => (c0.fV, x))) M W) (fun s M M' A B h hs hm => HJ.out _ M M' A B h hs hm) (fun s M M' A B h hs hm => HJX.out _ M M' A B h hs hm) (fun pre x M A B hj hb _ hg => by
      obtain ⟨⟨ho, hlen⟩, hMe, hlt⟩ := hg
      rw [hl0]
      refine YieldAt.mono (HY.out (pre.map (fun x => (c0.fV, x))) (c0.fV, x) M A B hj hb trivial ⟨by rw [← hlen] at ho; exact ho, by rw [hlen]; have := hx.n2; omega, hlt⟩) ?_
      have hkp : ∀ C, KpF (fun k => Old k ∨ k = bS ∨ k = bSum) M B C → KpN c0 M B C := fun C hk => ⟨hk.1, fun k hkl hkm => hk.2 k hkl (by
        rcases hkm with e | e
        · rcases hKb k e with e2 | e2
          · exact .inl e2
          · right; rw [hMe, hM]; exact ⟨e2.1, e2.2.1⟩
        · exact .inr e)⟩
      rintro e C (⟨he, hj2, hk⟩ | ⟨he, hj2, hk⟩)
      · refine .inl ⟨he, ?_, hkp C hk⟩
        rw [List.map_append]; exact hj2
      · refine .inr ⟨he, ?_, hkp C hk⟩
        rw [List.map_append]; exact hj2) N 0 W5 (List.replicate N 0) 0 [] (by rw [hc0]; simp) hNS (fun j => by simp [hasB]) (by decide)
      (HJ.out [] (fun _ => False) c0.M W W5 H0.out (Below.stays hBW5 _) (fun k hk => by rw [hM] at hk; exact .inr hk.1)))
  have HC : Hid (Calls Try.prog 35 #[.int .i64 0, .pointer (some ⟨bS, 0, none⟩), .pointer (some ⟨W.heap.size, 0, none⟩), .pointer (some ⟨W2.heap.size, 0, none⟩), .pointer (some ⟨W4.heap.size + 1, 0, none⟩), .pointer (some ⟨W4.heap.size, 0, none⟩), .pointer (some ⟨bSum, 0, none⟩), .pointer (some ⟨W4.heap.size + 1 + 1, 0, none⟩)] W5 (fun e W' => (∃ v, e = .returned v) ∧
      ((∃ xs M, xs.map Prod.snd = placeL ls sum N N [] ∧ J xs M W') ∨ (∃ pre M, (pre.map Prod.snd <+: placeL ls sum N N [] ∧ pre ≠ []) ∧ Jx pre M W')))) := by
    have h := HPL.out
    have hcap : #[Value.int .i64 ((0 : Nat) : Int)] ++ c0.caps = #[.int .i64 0, .pointer (some ⟨bS, 0, none⟩), .pointer (some ⟨W.heap.size, 0, none⟩), .pointer (some ⟨W2.heap.size, 0, none⟩), .pointer (some ⟨W4.heap.size + 1, 0, none⟩), .pointer (some ⟨W4.heap.size, 0, none⟩), .pointer (some ⟨bSum, 0, none⟩), .pointer (some ⟨W4.heap.size + 1 + 1, 0, none⟩)] := by
      rw [hc0]; rfl
    rw [hcap] at h
    have hL : placeL c0.ls c0.sum c0.N N ((List.replicate N 0).take 0) = placeL ls sum N N [] := by rw [hc0]; rfl
    rw [hL] at h
    refine h.mono ?_
    rintro e C (⟨he, F, _, _, hj2⟩ | ⟨he, _, ys, hys, hj2⟩)
    · refine ⟨⟨_, he⟩, .inl ⟨_, _, ?_, hj2⟩⟩
      rw [List.nil_append, List.map_map]
      exact List.map_id _
    · refine ⟨⟨_, he⟩, .inr ⟨_, _, ⟨?_, ?_⟩, hj2⟩⟩
      · rw [List.nil_append, List.map_map]
        have e1 : ys.map (Prod.snd ∘ fun x => (c0.fV, x)) = ys := List.map_id _
        rw [e1]; exact hys.1
      · rw [List.nil_append]
        intro e1
        exact hys.2 (List.map_eq_nil_iff.1 e1)
  clear HPL hNS hx hKb hM hl0 hc0
  go_wp2_with (go_at_call 35; refine HC.out.mono ?_; rintro _ W6 ⟨⟨v6, rfl⟩, hr6⟩)
  go_end0
  exact ⟨⟨_, rfl⟩, hr6⟩

/-- The iterator over the normal fillings has its contract. -/
theorem norm_seq (bS bSum : Nat) (a : Option Addr) (n c N : Nat) (ls : List (List Int)) (sum : Int) (W : World) (hqS : W.heap[bS]? = some (.cells #[.int .i64 (N : Int), .slice a n c] 24 (0, 0))) (hqSum : W.heap[bSum]? = some (.cells #[.int .i64 sum] 3 (0, 0)))
    (h : RC W a n ls) (hnl : n ≤ 1000000) (hN1 : 1 ≤ N) (hN2 : N ≤ 9) (hs1 : -1000000000000 ≤ sum) (hs2 : sum ≤ 1000000000000)
    (hline : ∀ l, l ∈ ls → 0 < l.length ∧ l.length ≤ 256 ∧ ∀ x, x ∈ l → 0 ≤ x ∧ x < (N : Int)) (hle : ∀ l, l ∈ ls → ∀ x, x ∈ l → x ≤ (lastC l : Int))
    (Old : Nat → Prop) (hOl : ∀ k, Old k → k < W.heap.size)
    (hOld : Sure Old W (fun w' => ∀ i, i < n → ∃ a9 n9 c9, lineV W a i = .slice a9 n9 c9 ∧ IC w' a9 n9 (ls[i]?.getD []) ∧ n9 ≤ c9)) :
    SeqM Try.prog 33 #[.pointer (some ⟨bS, 0, none⟩), .pointer (some ⟨bSum, 0, none⟩)] encS NewF GivenF (KpF (fun k => Old k ∨ k = bS ∨ k = bSum)) (fun xs => xs.map Prod.snd = placeL ls sum N N []) (fun pre => pre.map Prod.snd <+: placeL ls sum N N [] ∧ pre ≠ []) (fun _ => False) W :=
  fun l J Jx W1 hb hJ hJx hY h0 => norm1_c bS bSum a n c N ls sum W1 (keepq hb hqS) (keepq hb hqSum) (h.mono hb) hnl hN1 hN2 hs1 hs2 hline hle Old (fun k e => Nat.lt_of_lt_of_le (hOl k e) hb.size)
    (fun w' hs hk i hi => by
      obtain ⟨a9, n9, c9, h9⟩ := hOld w' (Nat.le_trans hb.size hs) (fun k e => (hk k e).trans (hb.block k (hOl k e))) i hi
      exact ⟨a9, n9, c9, (lineV_keep h hb i hi).trans h9.1, h9.2⟩) l J Jx hJ hJx hY h0

end Go.Proofs.Ytcblpobiefmjmaa
