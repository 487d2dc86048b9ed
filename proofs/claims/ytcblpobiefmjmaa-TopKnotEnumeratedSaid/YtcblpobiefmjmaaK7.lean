/- Fillings: all normal fillings with a sum. -/
import Derived.Test.YtcblpobiefmjmaaK6
import Derived.Test.YtcblpobiefmjmaaI0
namespace Go.Proofs.Ytcblpobiefmjmaa
open Go Go.RowKit Go.Shelf
attribute [local go_sem] over_cell
attribute [local go_sem] Oper.semAt_some

def fillAll (cells : Int) (ls : List (List Int)) (sum : Int) : List (List Int) := placeL ls sum cells.toNat cells.toNat []
def filsE (cells : Int) (ls : List (List Int)) (sum : Int) : Int :=
  if (ksmallErr cells ls != 0) = true then ksmallErr cells ls else if 1024 < (fillAll cells ls sum).length then 5 else 0
def filsL (cells : Int) (ls : List (List Int)) (sum : Int) : List (List Int) :=
  if (ksmallErr cells ls != 0) = true then [] else if 1024 < (fillAll cells ls sum).length then [] else fillAll cells ls sum

theorem KpF.trans {Prot M : Nat → Prop} {A B C : World} (h : KpF Prot M A B) (k : KpF Prot M B C) : KpF Prot M A C :=
  ⟨Nat.le_trans h.1 k.1, fun i hi hk => (k.2 i (Nat.lt_of_lt_of_le hi h.1) hk).trans (h.2 i hi hk)⟩
theorem KpF.putObj {Prot M : Nat → Prop} {W : World} {l n : Nat} (o' : Obj) (hI : ∀ k, Prot k → k < n) (hl : n ≤ l) (hm : ¬ M l) : KpF Prot M W (W.putObj l o') :=
  ⟨by simp, fun k _ hk => World.putObj_heap_other (by
    rintro rfl
    rcases hk with hk | hk
    · have := hI _ hk; omega
    · exact hm hk)⟩
theorem KpF.setCell {Prot M : Nat → Prop} {W : World} {b i : Nat} (v : Value) (h1 : ¬ Prot b) (h2 : ¬ M b) : KpF Prot M W (W.setCell ⟨b, i, none⟩ v) :=
  ⟨(KeepsOthers.setCell W _ v).size, fun k _ hk => Below.heap_setCell _ _ _ _ (fun e => by simp only at e; subst e; exact hk.elim h1 h2)⟩
theorem GivenF.putObj {x : Value × List Int} {M : Nat → Prop} {W : World} {l : Nat} {o o' : Obj} (h : GivenF x M W) (hl : W.heap[l]? = some o) (ho : o.isCells = false) : GivenF x M (W.putObj l o') :=
  ⟨(StaysL.putObj (L := l) (fun _ => False) o' (Nat.le_refl _) hl ho).owns h.1 (fun _ _ e => e), h.2.1, fun k hk => Nat.lt_of_lt_of_le (h.2.2 k hk) (grownBy_putObj' W l o').size⟩

/-- A range over the normal fillings. -/
theorem wp_range_norm {g : Operand} {p : Tmp} {assign body : Code} {Q : Exit → Act → World → Prop} {a : Act} {w : World} (bS bSum : Nat) (ar : Option Addr) (n c N : Nat) (ls : List (List Int)) (sum : Int) (hqS : w.heap[bS]? = some (.cells #[.int .i64 (N : Int), .slice ar n c] 24 (0, 0))) (hqSum : w.heap[bSum]? = some (.cells #[.int .i64 sum] 3 (0, 0)))
    (h : RC w ar n ls) (hnl : n ≤ 1000000) (hN1 : 1 ≤ N) (hN2 : N ≤ 9) (hs1 : -1000000000000 ≤ sum) (hs2 : sum ≤ 1000000000000)
    (hline : ∀ l, l ∈ ls → 0 < l.length ∧ l.length ≤ 256 ∧ ∀ x, x ∈ l → 0 ≤ x ∧ x < (N : Int)) (hle : ∀ l, l ∈ ls → ∀ x, x ∈ l → x ≤ (lastC l : Int))
    (Old : Nat → Prop) (hOl : ∀ k, Old k → k < w.heap.size)
    (hOld : Sure Old w (fun w' => ∀ i, i < n → ∃ a9 n9 c9, lineV w ar i = .slice a9 n9 c9 ∧ IC w' a9 n9 (ls[i]?.getD []) ∧ n9 ≤ c9)) (hg : a.eval g = normV bS bSum)
    (I : List (Value × List Int) → (Nat → Prop) → World → Prop) (Ix : Code → List (Value × List Int) → (Nat → Prop) → World → Prop) (hI : StableL w.heap.size I) (hIx : ∀ c, StableL w.heap.size (Ix c)) (h0 : I [] (fun _ => False) w) (a₁ : Value × List Int → Act)
    (hassign : ∀ (l : Nat) (x : Value × List Int) (W : World) (K : Act → World → Prop), K (a₁ x) W →
      assign.wpIn (Fence.wide.inRound l) 0 Try.prog (Exit.then K (fun _ _ _ => False)) { tmps := a.tmps.setIfInBounds p x.1, defers := [] } W)
    (hbody : ∀ (l : Nat) (pre : List (Value × List Int)) (x : Value × List Int) (M : Nat → Prop) (W0 W : World), I pre M W0 → StaysL w.heap.size (fun _ => False) W0 W → GivenF x M W → body.wpIn (Fence.wide.inRound l) 0 Try.prog (ownPostM (KpF (fun k => Old k ∨ k = bS ∨ k = bSum)) I Ix (pre ++ [x]) M W) (a₁ x) W)
    (hdone : ∀ (D : Nat) (xs : List (Value × List Int)) (M : Nat → Prop) (W : World), w.heap.size ≤ D → xs.map Prod.snd = placeL ls sum N N [] → I xs M W → W.heap[D]? = some (.deferred (some [])) → Q .normal { a with defers := { target := .collected D, args := #[] } :: a.defers } W)
    (hstop : ∀ (D : Nat) (c : Code) (pre : List (Value × List Int)) (M : Nat → Prop) (W : World), w.heap.size ≤ D → pre.map Prod.snd <+: placeL ls sum N N [] → pre ≠ [] → Ix c pre M W → W.heap[D]? = some (.deferred (some [])) → c.wp Try.prog Q { a with defers := { target := .collected D, args := #[] } :: a.defers } W) :
    (Code.rangeFunc g #[p] assign body).wp Try.prog Q a w := by
  have hprot : ∀ k, (Old k ∨ k = bS ∨ k = bSum) → k < w.heap.size := by
    rintro k (e | e | e)
    · exact hOl k e
    · rw [e]; exact q_lt hqS
    · rw [e]; exact q_lt hqSum
  refine wp_rangeFunc_M (gf := 33) (lb := #[.pointer (some ⟨bS, 0, none⟩), .pointer (some ⟨bSum, 0, none⟩)]) hg (enters_of Try.func33 (by kernel_rfl) rfl)
    (norm_seq bS bSum ar n c N ls sum w hqS hqSum h hnl hN1 hN2 hs1 hs2 hline hle Old hOl hOld) (fun k hk => hk.elim) (fun x M W l o o' hG _ _ hl ho => hG.putObj hl ho) (fun h k => h.trans k)
    (fun M W l o o' hl hm _ _ => KpF.putObj o' hprot hl hm) (fun _ => rfl) I Ix hI hIx h0 a₁ (fun l x W K hK => by
      have e : (#[p].zip (encS x)).foldl (fun t (p, v) => t.setIfInBounds p v) a.tmps = a.tmps.setIfInBounds p x.1 := by simp [encS]
      rw [e]; exact hassign l x W K hK) (fun l pre x M W0 W hi hs _ hg => hbody l pre x M W0 W hi hs hg) hdone (fun D c pre M W hD hS => hstop D c pre M W hD hS.1 hS.2)

theorem placeL_len (ls : List (List Int)) (sum : Int) (N : Nat) : ∀ (d : Nat) (P f : List Int), f ∈ placeL ls sum N d P → f.length = P.length + d
  | 0, P, f, h => by rw [List.mem_singleton.1 h]; rfl
  | d + 1, P, f, h => by
    obtain ⟨i, _, h2⟩ := List.mem_flatMap.1 h
    split at h2
    · cases h2
    · split at h2
      · have := placeL_len ls sum N d _ f h2
        rw [List.length_append, List.length_singleton] at this
        omega
      · cases h2

/-- What a system without an error is. -/
theorem goodSys {cells : Int} {ls : List (List Int)} (h : sysErr cells ls = 0) : GoodTask cells ls 1 (List.replicate cells.toNat 0) := by
  have h1 : 1 ≤ cells := by
    unfold sysErr at h
    by_cases h4 : cells < 1 ∨ cells > 256
    · rw [if_pos h4] at h; exact absurd h (by decide)
    · omega
  refine goodTask ?_
  unfold taskErr
  rw [if_neg (by omega), if_neg (by decide), if_neg (by rw [List.length_replicate]; omega)]
  refine errs_none fun j hj => ?_
  rw [List.length_replicate] at hj
  unfold givenBad
  rw [List.getElem?_replicate, if_pos hj]
  simp only [Option.getD_some]
  rw [if_neg (by omega), if_neg (by omega)]

theorem GoodTask.step {cells : Int} {ls : List (List Int)} {sum : Int} {g : List Int} (h : GoodTask cells ls sum g) {l : List Int} (hl : l ∈ ls) : ∀ (j k : Nat), j + k < l.length → l[j]?.getD 0 + k ≤ l[j + k]?.getD 0 := by
  intro j k
  induction k with
  | zero => intro _; simp
  | succ k ih =>
    intro hk
    have h1 := ih (by omega)
    have h2 := h.asc l hl (j + k + 1) (by omega) (by omega)
    simp only [Nat.add_sub_cancel] at h2
    rw [show j + (k + 1) = j + k + 1 from by omega]
    omega

theorem GoodTask.lineShort {cells : Int} {ls : List (List Int)} {sum : Int} {g : List Int} (h : GoodTask cells ls sum g) {l : List Int} (hl : l ∈ ls) : (l.length : Int) ≤ cells := by
  have h0 := h.some l hl
  have h1 := h.step hl 0 (l.length - 1) (by omega)
  have h2 := h.mem l hl 0 h0
  have h3 := h.mem l hl (0 + (l.length - 1)) (by omega)
  omega

theorem GoodTask.le_last {cells : Int} {ls : List (List Int)} {sum : Int} {g : List Int} (h : GoodTask cells ls sum g) {l : List Int} (hl : l ∈ ls) {x : Int} (hx : x ∈ l) : x ≤ (lastC l : Int) := by
  obtain ⟨j, hj, rfl⟩ := List.getElem_of_mem hx
  have h1 := h.step hl j (l.length - 1 - j) (by omega)
  have h3 := h.mem l hl (l.length - 1) (by omega)
  rw [show j + (l.length - 1 - j) = l.length - 1 from by omega, List.getElem?_eq_getElem hj, Option.getD_some] at h1
  unfold lastC
  omega

def FilI (w : World) (L b4 b5 b7 : Nat) (pre : List (Value × List Int)) (M : Nat → Prop) (W : World) : Prop :=
  OldI w.heap.size w W M ∧ BoxI W M b4 #[.slice none 0 0] 22 ∧ BoxI W M b5 #[.int .i64 0] 32 ∧ (∃ r : Value × List (Value × List Int), BoxI W M b7 #[r.1] 22 ∧ RowsI W M L r.1 r.2 ∧ r.2.map Prod.snd = pre.map Prod.snd) ∧ L ≤ W.heap.size ∧ (pre.length : Int) ≤ 1024
theorem stable_rows2 {L L' : Nat} (r : Value × List (Value × List Int)) : StableL L' (fun (_ : List (Value × List Int)) M W => RowsI W M L r.1 r.2) := fun _ _ _ _ _ h hs hn => h.keep hs hn
theorem filI_stable {w : World} {L b4 b5 b7 : Nat} {L' : Nat} (h1 : w.heap.size ≤ L') : StableL L' (FilI w L b4 b5 b7) :=
  stable_and (stable_old h1 (Nat.le_refl _)) (stable_and (stable_box _ _ _) (stable_and (stable_box _ _ _) (stable_and (stable_ex fun r => stable_and (stable_box _ _ _) (stable_and (stable_rows2 r) (stable_pure (fun (pre : List (Value × List Int)) => r.2.map Prod.snd = pre.map Prod.snd)))) (stable_and stable_size (stable_pure (fun (pre : List (Value × List Int)) => (pre.length : Int) ≤ 1024))))))
def FilX (w : World) (b4 b5 : Nat) (c : Code) (pre : List (Value × List Int)) (M : Nat → Prop) (W : World) : Prop :=
  c = .ret ∧ OldI w.heap.size w W M ∧ BoxI W M b4 #[.slice none 0 0] 22 ∧ BoxI W M b5 #[.int .i64 5] 32 ∧ (1024 : Int) < pre.length
theorem filX_stable {w : World} {b4 b5 : Nat} {L' : Nat} (h1 : w.heap.size ≤ L') (c : Code) : StableL L' (FilX w b4 b5 c) :=
  stable_and (stable_pure _) (stable_and (stable_old h1 (Nat.le_refl _)) (stable_and (stable_box _ _ _) (stable_and (stable_box _ _ _) (stable_pure _))))

set_option maxRecDepth 100000 in
set_option maxHeartbeats 4000000 in
theorem fillings_c (a : Option Addr) (n c : Nat) (ls : List (List Int)) (cells sum : Int) (w : World) (h : RC w a n ls) (hcap : n ≤ c) (hs1 : -1000000000000 ≤ sum) (hs2 : sum ≤ 1000000000000) :
    Calls Try.prog 9 #[.agg #[.int .i64 cells, .slice a n c], .int .i64 sum] w fun e w' => ∃ ar nr cr, e = .returned (.tuple #[.slice ar nr cr, .int .i64 (filsE cells ls sum)]) ∧ RC w' ar nr (filsL cells ls sum) ∧ nr ≤ cr ∧ Below w.heap.size w w' := by
  have hE : Hid (filsE cells ls sum = if (ksmallErr cells ls != 0) = true then ksmallErr cells ls else if 1024 < (fillAll cells ls sum).length then 5 else 0) := rfl
  have hL : Hid (filsL cells ls sum = if (ksmallErr cells ls != 0) = true then [] else if 1024 < (fillAll cells ls sum).length then [] else fillAll cells ls sum) := rfl
  have H := Go.Lib.hid h
  refine calls_of_marks Try.func9 rfl ?_
  simp only [Try.ntmps9, List.size_toArray, List.length_cons, List.length_nil, Nat.reduceAdd, Nat.reduceSub, Array.replicate_succ, Array.replicate_zero, List.push_toArray, List.append_toArray, List.nil_append, List.cons_append]
  go_wp2_with fail
  have fsz : (((w.alloc (.cells #[.int .i64 cells, .slice a n c] 24)).alloc (.cells #[.slice none 0 0] 22)).alloc (.cells #[.int .i64 0] 32)).heap.size = w.heap.size + 3 := by simp only [World.size_alloc] <;> omega
  have fB : Below w.heap.size w (((w.alloc (.cells #[.int .i64 cells, .slice a n c] 24)).alloc (.cells #[.slice none 0 0] 22)).alloc (.cells #[.int .i64 0] 32)) := (((Below.refl _ _).alloc (Nat.le_refl _) _).alloc (by simp only [World.size_alloc]; omega) _).alloc (by simp only [World.size_alloc]; omega) _
  have fq0 : (((w.alloc (.cells #[.int .i64 cells, .slice a n c] 24)).alloc (.cells #[.slice none 0 0] 22)).alloc (.cells #[.int .i64 0] 32)).heap[w.heap.size]? = some (.cells #[.int .i64 cells, .slice a n c] 24 (0, 0)) := by have h := World.alloc_heap_new w (.cells #[.int .i64 cells, .slice a n c] 24); exact (Below.heap_alloc _ _ _ (by simp only [World.size_alloc]; omega)).trans ((Below.heap_alloc _ _ _ (by simp only [World.size_alloc]; omega)).trans (h))
  have fq1 : (((w.alloc (.cells #[.int .i64 cells, .slice a n c] 24)).alloc (.cells #[.slice none 0 0] 22)).alloc (.cells #[.int .i64 0] 32)).heap[w.heap.size + 1]? = some (.cells #[.slice none 0 0] 22 (0, 0)) := by have h := World.alloc_heap_new (w.alloc (.cells #[.int .i64 cells, .slice a n c] 24)) (.cells #[.slice none 0 0] 22); simp only [World.size_alloc] at h; exact (Below.heap_alloc _ _ _ (by simp only [World.size_alloc]; omega)).trans (h)
  have fq2 : (((w.alloc (.cells #[.int .i64 cells, .slice a n c] 24)).alloc (.cells #[.slice none 0 0] 22)).alloc (.cells #[.int .i64 0] 32)).heap[w.heap.size + 1 + 1]? = some (.cells #[.int .i64 0] 32 (0, 0)) := by have h := World.alloc_heap_new ((w.alloc (.cells #[.int .i64 cells, .slice a n c] 24)).alloc (.cells #[.slice none 0 0] 22)) (.cells #[.int .i64 0] 32); simp only [World.size_alloc] at h; exact h
  generalize (((w.alloc (.cells #[.int .i64 cells, .slice a n c] 24)).alloc (.cells #[.slice none 0 0] 22)).alloc (.cells #[.int .i64 0] 32)) = W0 at fsz fB fq0 fq1 fq2 ⊢
  have HS := Go.Lib.hid (ksmall_c a n c ls cells W0 (h.mono fB) hcap)
  have HSZ := Go.Lib.hid fsz
  have fsz' : w.heap.size + 2 < W0.heap.size := by omega
  clear fsz h
  by_cases he : (ksmallErr cells ls != 0) = true
  · rw [if_pos he] at hE hL
    go_wp2_with (go_at_call 20; refine HS.out.mono ?_; rintro _ w1 ⟨rfl, hb1⟩; have c1 := q_cell (keepq hb1 fq1) 0; have c2 := q_cell (keepq hb1 fq2) 0; have f1 := q_free (keepq hb1 fq1) 0; have f2 := q_free (keepq hb1 fq2) 0)
    have g1 := q_other (q_set (i := 0) (keepq hb1 fq1) (.slice none 0 0)) (b' := w.heap.size + 1 + 1) (i := 0) (by omega) (.int .i64 (ksmallErr cells ls))
    have g2 := q_set (i := 0) (q_other (keepq hb1 fq2) (b' := w.heap.size + 1) (i := 0) (by omega) (.slice none 0 0)) (.int .i64 (ksmallErr cells ls))
    have d1 := q_cell g1 0
    have d2 := q_cell g2 0
    refine marks_none (v := .tuple #[.slice none 0 0, .int .i64 (ksmallErr cells ls)]) ?_ rfl ⟨none, 0, 0, ?_, ?_, Nat.le_refl _, ?_⟩
    · simp [results, Try.f9, go_sem, d1, d2]
    · rw [hE.out]
    · rw [hL.out]; exact RC.none _
    · exact (((fB.trans (hb1.mono (by omega))).setCell (p := ⟨w.heap.size + 1, 0, none⟩) (by simp) _).setCell (p := ⟨w.heap.size + 1 + 1, 0, none⟩) (by show w.heap.size ≤ w.heap.size + 1 + 1; omega) _)
  · have he0 : ksmallErr cells ls = 0 := by simpa using he
    rw [if_neg he] at hE hL
    have hsys : sysErr cells ls = 0 := firstL_zero he0 _ (by simp)
    have h9 : cells ≤ 9 := by
      have := firstL_zero he0 (whenV (decide (9 < cells)) 20) (by simp)
      unfold whenV at this
      by_cases h9 : 9 < cells
      · rw [if_pos (by simpa using h9)] at this; exact absurd this (by decide)
      · omega
    have G := Go.Lib.hid (goodSys hsys)
    rw [he0] at HS
    obtain ⟨N, hN⟩ : ∃ N : Nat, cells = (N : Int) := ⟨cells.toNat, by have := G.out.cells1; omega⟩
    have hfa : Hid (fillAll cells ls sum = placeL ls sum N N []) := by unfold Hid fillAll; rw [hN]; rfl
    subst hN
    clear he he0 hsys
    have hl := H.out.len
    have hn1 : n ≤ 1000000 := by have := G.out.lines; omega
    have hN1 : 1 ≤ N := by have := G.out.cells1; omega
    have hN2 : N ≤ 9 := by omega
    go_wp2_with (go_at_call 20; refine HS.out.mono ?_; rintro _ w1 ⟨rfl, hb1⟩; have hA := (Below.refl w1.heap.size w1).alloc (Nat.le_refl _) (.cells #[.slice none 0 0] 22); have x0 := q_cell (keepq hA (keepq hb1 fq0)) 0; have x1 := q_cell (keepq hA (keepq hb1 fq0)) 1)
    have hz1 := hb1.size
    have g0 := keepq hA (keepq hb1 fq0)
    have g1 := keepq hA (keepq hb1 fq1)
    have g2 := keepq hA (keepq hb1 fq2)
    have g3 : (w1.alloc (.cells #[.slice none 0 0] 22)).heap[w1.heap.size]? = some (.cells #[.slice none 0 0] 22 (0, 0)) := World.alloc_heap_new _ _
    have hBW : Below w.heap.size w (w1.alloc (.cells #[.slice none 0 0] 22)) := (fB.trans (hb1.mono (by omega))).alloc (by omega) _
    have hbn : w1.heap.size < (w1.alloc (.cells #[.slice none 0 0] 22)).heap.size := q_lt g3
    clear x0 x1 hA
    generalize (w1.alloc (.cells #[.slice none 0 0] 22)) = W2 at g0 g1 g2 g3 hBW hbn ⊢
    refine (normal_c a n c (N : Int) sum W2).mono ?_
    rintro _ w3 ⟨rfl, rfl⟩
    go_wp2_with fail
    have ksz : ((W2.alloc (.cells #[.int .i64 (N : Int), .slice a n c] 24)).alloc (.cells #[.int .i64 sum] 3)).heap.size = W2.heap.size + 2 := by simp only [World.size_alloc] <;> omega
    have kB : Below W2.heap.size W2 ((W2.alloc (.cells #[.int .i64 (N : Int), .slice a n c] 24)).alloc (.cells #[.int .i64 sum] 3)) := ((Below.refl _ _).alloc (Nat.le_refl _) _).alloc (by simp only [World.size_alloc]; omega) _
    have kq0 : ((W2.alloc (.cells #[.int .i64 (N : Int), .slice a n c] 24)).alloc (.cells #[.int .i64 sum] 3)).heap[W2.heap.size]? = some (.cells #[.int .i64 (N : Int), .slice a n c] 24 (0, 0)) := by have h := World.alloc_heap_new W2 (.cells #[.int .i64 (N : Int), .slice a n c] 24); exact (Below.heap_alloc _ _ _ (by simp only [World.size_alloc]; omega)).trans (h)
    have kq1 : ((W2.alloc (.cells #[.int .i64 (N : Int), .slice a n c] 24)).alloc (.cells #[.int .i64 sum] 3)).heap[W2.heap.size + 1]? = some (.cells #[.int .i64 sum] 3 (0, 0)) := by have h := World.alloc_heap_new (W2.alloc (.cells #[.int .i64 (N : Int), .slice a n c] 24)) (.cells #[.int .i64 sum] 3); simp only [World.size_alloc] at h; exact h
    generalize ((W2.alloc (.cells #[.int .i64 (N : Int), .slice a n c] 24)).alloc (.cells #[.int .i64 sum] 3)) = W3 at ksz kB kq0 kq1 ⊢
    have hBW3 : Below w.heap.size w W3 := hBW.trans (kB.mono hBW.size)
    have p1 := keepq kB g1
    have p2 := keepq kB g2
    have p3 := keepq kB g3
    have hz2 := hBW.size
    obtain ⟨i0, hi, hi0, hi1, hi2⟩ := info_parts infoRow
    have hle1 : w.heap.size ≤ w1.heap.size := by omega
    refine wp_range_norm W2.heap.size (W2.heap.size + 1) a n c N ls sum kq0 kq1 (H.out.mono hBW3) hn1 hN1 hN2 hs1 hs2 (fun l hl => ⟨G.out.some l hl, by have := G.out.lineShort hl; omega, (G.out.lineLen hl).2⟩) (fun l hl x hx => G.out.le_last hl hx)
      (fun k => k < w.heap.size) (fun k hk => by omega) (old_lines H.out hBW3) rfl
      (FilI w W3.heap.size (w.heap.size + 1) (w.heap.size + 1 + 1) w1.heap.size) (FilX w (w.heap.size + 1) (w.heap.size + 1 + 1)) ?hI ?hIx ?h0 ?act ?assign ?body ?done ?stop
    case hI => exact filI_stable (by omega)
    case hIx => exact filX_stable (by omega)
    case h0 => exact ⟨⟨hBW3, fun k hk => hk.elim⟩, ⟨p1, fun e => e⟩, ⟨p2, fun e => e⟩, ⟨(.slice none 0 0, []), ⟨p3, fun e => e⟩, RowsI.nil _ _ _, rfl⟩, Nat.le_refl _, by simp⟩
    case assign =>
      intro l x W K hK
      gi_wp2
      exact hK
    case body =>
      rintro l pre ⟨xv, xl⟩ M W4 W hI0 hst hgiv
      obtain ⟨⟨hBB4, hM⟩, ⟨q14, m1⟩, ⟨q24, m2⟩, ⟨⟨v, rows⟩, ⟨q34, m3⟩, hrow4, hmap⟩, hsz4, hle⟩ := hI0
      have q1 := hst.at q14 (fun e => e)
      have q2 := hst.at q24 (fun e => e)
      have q3 := hst.at q34 (fun e => e)
      have hrow := hrow4.keep (hst.mono (M' := M) (fun _ e => e.elim)) (fun _ e => .inl e)
      have hsz2 := Nat.le_trans hsz4 hst.size
      have hBB : Below w.heap.size w W := hst.below hBB4 (by omega) (Nat.le_refl _) (fun _ e => e.elim)
      clear hrow4 q14 q24 q34 hBB4 hsz4
      obtain ⟨ax, cx, hxv⟩ := owns_shape hgiv.1
      dsimp only at hxv hrow hmap q3
      subst hxv
      obtain ⟨av, cv, rfl⟩ := owns_shape hrow.1
      have hlen : rows.length = pre.length := by have := congrArg List.length hmap; simpa using this
      rw [hlen] at hrow q3
      have c1 := q_cell q1 0
      have c2 := q_cell q2 0
      have c3 := q_cell q3 0
      have f1 := q_free q1 0
      have f2 := q_free q2 0
      have f3 := q_free q3 0
      by_cases hb : (pre.length : Int) = 1024
      · have hb1 : ((pre.length : Int) == 1024) = true := by simpa using hb
        have HB := Go.Lib.hid hb
        clear hb
        gi_wp2
        refine ⟨(KeepsOthers.setCell _ _ _).trans (KeepsOthers.setCell _ _ _), (KpF.setCell _ (by omega) m1).trans (KpF.setCell _ (by omega) m2), rfl, ⟨(hBB.setCell (p := ⟨w.heap.size + 1, 0, none⟩) (by simp) _).setCell (p := ⟨w.heap.size + 1 + 1, 0, none⟩) (by show w.heap.size ≤ w.heap.size + 1 + 1; omega) _, hM⟩, ⟨q_other (q_set q1 _) (by omega) _, m1⟩, ⟨q_set (q_other q2 (by omega) _) _, m2⟩, by have := HB.out; simp; omega⟩
      · have hb1 : ((pre.length : Int) == 1024) = false := by simpa using hb
        have HB := Go.Lib.hid hb
        clear hb
        have HCL := Go.Lib.hid (fun w5 (hb : Below W.heap.size W w5) => clone_c ax xl.length cx xl w5 (((IC.of_owns hgiv.1 (by have := hgiv.2.1; omega)).1).mono hb))
        have hb7 : w1.heap.size < W.heap.size := q_lt q3
        gi_wp2_with fail
        refine wpIn_region_S (fun w' => ∃ u, w' = over (W) u) [5, 4] [(0, 0), (0, 1), (1, 2), (1, 3), (2, 4), (2, 5)] (by kernel_rfl) (by kernel_rfl) (by kernel_rfl) (fun _ _ h => h) (by exact ⟨_, below_over (by repeat (first | assumption | exact Below.refl _ _ | refine keep_drew ?_ | refine keep_alloc ?_ _ | refine keep_trans ?_ (by assumption)))⟩) ?_
        dsimp only [pickOps, nthOp]
        repeat (first | (refine wpS_skip rfl (fun K hK => ?_); go_big_quiet_op; refine hK _ ?_; clear hK K) | (refine wpS_quiet rfl rfl (fun K hK => ?_); go_big_quiet_op; refine hK _ ?_; clear hK K) | (refine wpS_loud ?_; go_wp2_with (first | (go_at_call 22; refine (HCL.out _ (keep_drew (Below.refl _ _))).mono ?_; rintro _ wc ⟨vc, rfl, hownc, hbc⟩; obtain ⟨ac, cc, rfl⟩ := owns_shape hownc; have hbw := keep_trans (keep_drew (Below.refl _ W)) hbc; have hrowc := hrow.keep ((Below.stays hbw M).toL 0) (fun k e => .inl e); have q3c := keepq hbw q3; have hv3 : ¬ (Value.slice av pre.length cv).ownBlock = some w1.heap.size := (fun e => by have := (hrow.1.lt _ e).1; omega)) | (at_builtin; refine wpList_append_own2 _ rfl _ _ 22 rfl 25 i0 (.slice none 0 0) 1 24 Try.underlying22 hi hi0 hi1 hi2 rfl (by decide) _ _ _ rfl (owns_base (hrowc.1.alloc _) (Nat.zero_le _)) ⟨wc.heap.size, 0, none⟩ 1 1 [.slice ac xl.length cc] rfl rfl (cell_one_new _ _ _) (by simp [Value.oneCell']) (by unfold maxLen; omega) (by omega) ?_; intro v' w9 hown' hgrow hnew; rw [hlen] at hown'; obtain ⟨av', cv', rfl⟩ := owns_shape hown'; have hs9 := grow_stays hgrow; have q39 := hs9.q q3c hv3; have c39 := q_cell q39 0; have f39 := q_free q39 0)); refine ⟨?_, ?_⟩; focus (exact ⟨_, below_over (by repeat (first | assumption | exact Below.refl _ _ | refine keep_drew ?_ | refine keep_alloc ?_ _ | refine keep_trans ?_ (by assumption)))⟩)))
        refine wpS_late _ _ _ rfl ?_
        dsimp only [List.map]
        go_wp2_with (first | (go_at_call 22; refine (HCL.out _ (keep_drew (Below.refl _ _))).mono ?_; rintro _ wc ⟨vc, rfl, hownc, hbc⟩; obtain ⟨ac, cc, rfl⟩ := owns_shape hownc; have hbw := keep_trans (keep_drew (Below.refl _ W)) hbc; have hrowc := hrow.keep ((Below.stays hbw M).toL 0) (fun k e => .inl e); have q3c := keepq hbw q3; have hv3 : ¬ (Value.slice av pre.length cv).ownBlock = some w1.heap.size := (fun e => by have := (hrow.1.lt _ e).1; omega)) | (at_builtin; refine wpList_append_own2 _ rfl _ _ 22 rfl 25 i0 (.slice none 0 0) 1 24 Try.underlying22 hi hi0 hi1 hi2 rfl (by decide) _ _ _ rfl (owns_base (hrowc.1.alloc _) (Nat.zero_le _)) ⟨wc.heap.size, 0, none⟩ 1 1 [.slice ac xl.length cc] rfl rfl (cell_one_new _ _ _) (by simp [Value.oneCell']) (by unfold maxLen; omega) (by omega) ?_; intro v' w9 hown' hgrow hnew; rw [hlen] at hown'; obtain ⟨av', cv', rfl⟩ := owns_shape hown'; have hs9 := grow_stays hgrow; have q39 := hs9.q q3c hv3; have c39 := q_cell q39 0; have f39 := q_free q39 0))
        refine NoPanic.normal ?_
        have hx2 : wc.ownsRow W3.heap.size 3 1 (.slice ac xl.length cc) xl.length (xl.map (Value.int .i64)) := owns_up (owns_base hownc (Nat.zero_le _)) (fun k e => by have := (hownc.lt k e).1; simp only [World.drew] at this; omega)
        have hr := hrowc.append (x := (.slice ac xl.length cc, xl)) (W2 := w9) (v' := .slice av' (pre.length + 1) cv') (fun k e => Nat.lt_of_lt_of_le (hgiv.2.2 k e) hbw.size) hx2 (fun k e => by
          have h1 := (hownc.lt k e).1
          simp only [World.drew] at h1
          exact ⟨fun e2 => by have := hgiv.2.2 k e2; omega, fun e2 => by have := (hrow.1.lt k e2).2; omega⟩) hs9 (by
            rw [hlen]
            refine owns_up hown' (fun k e => ?_)
            rcases hnew k e with e2 | e2
            · exact (hrow.1.lt k e2).1
            · have := hbw.size; simp at e2; omega) (fun k e => (hnew k e).imp id (fun e2 => by simp at e2; omega))
        have hvB : ∀ k, (Value.slice av pre.length cv).ownBlock = some k → W3.heap.size ≤ k := fun k e => (hrow.1.lt k e).1
        have HFIN : Hid (KeepsOthers W (w9.setCell ⟨w1.heap.size, 0, none⟩ (Value.slice av' (pre.length + 1) cv')) ∧ KpF (fun k => k < w.heap.size ∨ k = W2.heap.size ∨ k = W2.heap.size + 1) M W (w9.setCell ⟨w1.heap.size, 0, none⟩ (Value.slice av' (pre.length + 1) cv')) ∧ FilI w W3.heap.size (w.heap.size + 1) (w.heap.size + 1 + 1) w1.heap.size (pre ++ [(Value.slice ax xl.length cx, xl)]) M (w9.setCell ⟨w1.heap.size, 0, none⟩ (Value.slice av' (pre.length + 1) cv'))) := by
          have hzw := hbw.size
          have hz9 := hs9.size
          have hzs : (w9.setCell ⟨w1.heap.size, 0, none⟩ (Value.slice av' (pre.length + 1) cv')).heap.size = w9.heap.size := by simp [World.setCell]
          refine ⟨?_, ⟨by omega, fun k hk hb => ?_⟩, ⟨?_, hM⟩, ⟨q_other (hs9.q (keepq hbw q1) ?_) (by omega) _, m1⟩, ⟨q_other (hs9.q (keepq hbw q2) ?_) (by omega) _, m2⟩, ⟨(.slice av' (pre.length + 1) cv', rows ++ [(.slice ac xl.length cc, xl)]), ⟨q_set q39 _, m3⟩, hr.setCell (by omega) _, ?_⟩, by omega, by have := HB.out; simp; omega⟩
          · have k1 : KeepsOthers W wc := ⟨hbw.size, fun k o ho _ => keepq hbw ho⟩
            refine (k1.trans ((KeepsOthers.alloc wc _).trans (KeepsOthers.of_grownBy hgrow ?_))).trans (KeepsOthers.setCell _ _ _)
            intro j o e ho
            exact owns_cells (hrowc.1.alloc _) e ho
          · refine (Below.heap_setCell _ _ _ _ ?_).trans ((hs9.block k (by omega) ?_).trans (hbw.block k hk))
            · show k ≠ w1.heap.size
              rintro rfl
              rcases hb with hb | hb
              · omega
              · exact m3 hb
            · intro e
              have := hvB k e
              rcases hb with hb | hb
              · omega
              · exact hrow.2.1 k e hb
          · refine Below.setCell (p := ⟨w1.heap.size, 0, none⟩) ?_ hle1 _
            exact (hBB.trans (hbw.mono hBB.size)).trans (hs9.below (by have := hBB.size; omega) (fun k e => by have := hvB k e; omega))
          · intro e; have := hvB _ e; omega
          · intro e; have := hvB _ e; omega
          · rw [List.map_append, List.map_append, hmap]; rfl
        clear hr hx2 hown' hgrow hnew hs9
        gi_wp2
        exact HFIN.out
    case done =>
      rintro D xs M W hD hS ⟨⟨hBB, hM⟩, ⟨q1, m1⟩, ⟨q2, m2⟩, ⟨⟨v, rows⟩, ⟨q3, m3⟩, hrow, hmap⟩, hsz2, hle⟩ hK
      dsimp only at hrow hmap q3
      have hlen : rows.length = xs.length := by have := congrArg List.length hmap; simpa using this
      have hlr : rows.length ≤ 17592186044416 := by omega
      have hx2 : ∀ x, x ∈ rows → x.2.length ≤ 17592186044416 := (fun x hx => by
        have h2 : x.2 ∈ placeL ls sum N N [] := by rw [← hS, ← hmap]; exact List.mem_map.2 ⟨x, hx, rfl⟩
        have h3 := placeL_len ls sum N N [] x.2 h2
        simp only [List.length_nil] at h3
        omega)
      obtain ⟨av, cv, rfl, hrc, hcap⟩ := hrow.rc hlr hx2
      have HX2 := Go.Lib.hid hx2
      have c1 := q_cell q1 0
      have c2 := q_cell q2 0
      have c3 := q_cell q3 0
      have f1 := q_free q1 0
      have f2 := q_free q2 0
      have HMAP := Go.Lib.hid hmap
      have HS2 := Go.Lib.hid hS
      have HLEN := Go.Lib.hid hlen
      have HROW := Go.Lib.hid hrow
      clear hmap hS hlen hrow hrc hx2
      go_wp2
      have r1 := q_other (b' := w.heap.size + 1 + 1) (i := 0) (q_set (i := 0) q1 (.slice av rows.length cv)) (by omega) (.int .i64 0)
      have r2 := q_set (i := 0) (q_other (b' := w.heap.size + 1) (i := 0) q2 (by omega) (.slice av rows.length cv)) (.int .i64 0)
      have hK2 := ((KeepsOthers.setCell W ⟨w.heap.size + 1, 0, none⟩ (.slice av rows.length cv)).trans (KeepsOthers.setCell _ ⟨w.heap.size + 1 + 1, 0, none⟩ (.int .i64 0))).same D _ hK rfl
      have d1 := (putD_cell hK2 ⟨w.heap.size + 1, 0, none⟩).trans (q_cell r1 0)
      have d2 := (putD_cell hK2 ⟨w.heap.size + 1 + 1, 0, none⟩).trans (q_cell r2 0)
      have hfl : (fillAll (N : Int) ls sum) = rows.map Prod.snd := by rw [hfa.out, ← HS2.out, HMAP.out]
      have hln : (fillAll (N : Int) ls sum).length = rows.length := by rw [hfl, List.length_map]
      have hln2 := HLEN.out
      refine marks_one (v := .tuple #[.slice av rows.length cv, .int .i64 0]) hK2 rfl ?_ ⟨av, rows.length, cv, ?_, ?_, hcap, ?_⟩
      · simp [results, Try.f9, go_sem, d1, d2]
      · rw [hE.out, if_neg (by omega)]
      · rw [hL.out, if_neg (by omega), hfl]
        obtain ⟨a2, c2', e2, hrc2, _⟩ := (((HROW.out.setCell (b := w.heap.size + 1) (i := 0) (by omega) (.slice av rows.length cv)).setCell (b := w.heap.size + 1 + 1) (i := 0) (by omega) (.int .i64 0)).keep (StaysL.putObj (L := 0) M (.deferred none) (Nat.zero_le _) hK2 rfl) (fun _ e => .inl e)).rc hlr HX2.out
        simp only [Value.slice.injEq] at e2
        obtain ⟨rfl, _, rfl⟩ := e2
        exact hrc2
      · exact putD_below ((hBB.setCell (p := ⟨w.heap.size + 1, 0, none⟩) (by simp) _).setCell (p := ⟨w.heap.size + 1 + 1, 0, none⟩) (by show w.heap.size ≤ w.heap.size + 1 + 1; omega) _) (by omega)
    case stop =>
      rintro D c pre M W hD hS _ ⟨rfl, ⟨hB, hM⟩, ⟨q1, m1⟩, ⟨q2, m2⟩, hgt⟩ hK
      go_wp2
      have d1 := (putD_cell hK ⟨w.heap.size + 1, 0, none⟩).trans (q_cell q1 0)
      have d2 := (putD_cell hK ⟨w.heap.size + 1 + 1, 0, none⟩).trans (q_cell q2 0)
      have hlen : pre.length ≤ (fillAll (N : Int) ls sum).length := by rw [hfa.out]; have := hS.length_le; simpa using this
      refine marks_one (v := .tuple #[.slice none 0 0, .int .i64 5]) hK rfl ?_ ⟨none, 0, 0, ?_, ?_, Nat.le_refl _, ?_⟩
      · simp [results, Try.f9, go_sem, d1, d2]
      · rw [hE.out, if_pos (by omega)]
      · rw [hL.out, if_pos (by omega)]; exact RC.none _
      · exact putD_below hB (by omega)

end Go.Proofs.Ytcblpobiefmjmaa
