/- Contracts: the library's Index, Contains, IndexFunc, ContainsFunc, Equal at integers and rows; first, when. -/
import Derived.Test.YtcblpobiefmjmaaC7
namespace Go.Proofs.Ytcblpobiefmjmaa
open Go Go.RowKit
attribute [local go_sem] over_cell

/-- The first index below n with p, -1 for none. -/
def idxP (p : Nat → Bool) (n : Nat) : Int := match (List.range n).find? p with | some i => (i : Int) | none => -1
def anyP (p : Nat → Bool) (n : Nat) : Bool := (List.range n).any p
theorem idxP_hit {p : Nat → Bool} {n k : Nat} (h : ∀ j, j < k → p j = false) (hk : k < n) (hp : p k = true) : idxP p n = k := by
  have : (List.range n).find? p = some k := by
    rw [List.find?_range_eq_some]
    exact ⟨hp, by simpa using hk, fun j hj => by simp [h j hj]⟩
  simp [idxP, this]
theorem idxP_none {p : Nat → Bool} {n : Nat} (h : ∀ j, j < n → p j = false) : idxP p n = -1 := by
  have : (List.range n).find? p = none := by
    rw [List.find?_range_eq_none]
    exact fun j hj => by simp [h j hj]
  simp [idxP, this]
theorem idxP_ge {p : Nat → Bool} {n : Nat} : decide (0 ≤ idxP p n) = anyP p n := by
  unfold idxP anyP
  cases h : (List.range n).find? p with
  | none =>
    have : (List.range n).any p = false := by
      rw [List.any_eq_false]
      rw [List.find?_eq_none] at h
      exact h
    simp [this]
  | some i =>
    have : (List.range n).any p = true := List.any_eq_true.2 ⟨i, List.mem_of_find?_eq_some h, List.find?_some h⟩
    simp [this]
theorem upB_snoc {f : Nat → Bool} {k : Nat} (h : ∀ j, j < k → f j = false) (hk : f k = false) : ∀ j, j < k + 1 → f j = false := by
  intro j hj
  by_cases e : j = k
  · rw [e]; exact hk
  · exact h j (by omega)

set_option maxRecDepth 100000 in
set_option maxHeartbeats 1000000 in
theorem index_c (a : Option Addr) (n c : Nat) (xs : List Int) (x : Int) (w : World) (h : IC w a n xs) :
    Calls Try.prog 47 #[.slice a n c, .int .i64 x] w fun e w' => e = .returned (.int .i64 (idxP (fun k => x == xs[k]?.getD 0) n)) ∧ w = w' := by
  have hm := h.small
  go_enter Try.func47, Try.ntmps47
  go_wp2
  go_loop [5, 8] (fun _ i => ∃ k : Nat, k ≤ n ∧ i = .int .i64 k ∧ Hid (∀ j, j < k → (x == xs[j]?.getD 0) = false)) (fun _ i => n - (intOf i).toNat)
  case atStart => exact ⟨0, by omega, rfl, fun j hj => absurd hj (by omega)⟩
  case round =>
    obtain ⟨k, hk, rfl, hn⟩ := hrel
    by_cases hlt : k < n
    · obtain ⟨b, off, rfl, hb, hc⟩ := h.2 k hlt
      go_wp2
      · have he : (x == xs[k]?.getD 0) = true := by assumption
        go_ret
        exact ⟨ret_int (idxP_hit hn.out hlt he).symm, rfl⟩
      · have he : (x == xs[k]?.getD 0) = false := by assumption
        go_round
        case rel => exact ⟨k + 1, by omega, by go_num, upB_snoc (f := fun j => x == xs[j]?.getD 0) hn.out he⟩
        case measure => simp [intOf]; omega
    · have e : k = n := by omega
      subst e
      go_wp2
      go_ret
      exact ⟨ret_int (idxP_none hn.out).symm, rfl⟩

theorem anyP_has (xs : List Int) (x : Int) : anyP (fun k => x == xs[k]?.getD 0) xs.length = hasB xs x := by
  rw [Bool.eq_iff_iff]
  simp only [anyP, hasB, List.any_eq_true, List.mem_range, beq_iff_eq, List.contains_iff_mem]
  constructor
  · rintro ⟨k, hk, e⟩
    rw [e, List.getElem?_eq_getElem hk]
    simp
  · intro hm
    obtain ⟨k, hk, e⟩ := List.getElem_of_mem hm
    exact ⟨k, hk, by rw [List.getElem?_eq_getElem hk]; simp [e]⟩

set_option maxHeartbeats 1000000 in
theorem contains_c (a : Option Addr) (n c : Nat) (xs : List Int) (x : Int) (w : World) (h : IC w a n xs) :
    Calls Try.prog 30 #[.slice a n c, .int .i64 x] w fun e w' => e = .returned (.bool (hasB xs x)) ∧ w = w' := by
  have hE : Hid (decide (0 ≤ idxP (fun k => x == xs[k]?.getD 0) n) = hasB xs x) := by
    unfold Hid; rw [idxP_ge, ← h.len, anyP_has]
  have hI := index_c a n c xs x w h
  generalize idxP (fun k => x == xs[k]?.getD 0) n = r at hE hI
  have HI := Go.Lib.hid hI
  clear hI
  go_enter Try.func30, Try.ntmps30
  go_wp2_with (go_at_call 47; refine HI.out.mono ?_; rintro e w1 ⟨rfl, rfl⟩)
  go_ret
  exact ⟨ret_bool hE.out, rfl⟩

set_option maxRecDepth 100000 in
set_option maxHeartbeats 1000000 in
theorem equal_c (a a' : Option Addr) (n n' c c' : Nat) (xs ys : List Int) (w : World) (h : IC w a n xs) (h' : IC w a' n' ys) :
    Calls Try.prog 58 #[.slice a n c, .slice a' n' c'] w fun e w' => e = .returned (.bool (sameB xs ys)) ∧ Below w.heap.size w w' := by
  have hm := h.small
  by_cases hl : n = n'
  · subst hl
    go_enter Try.func58, Try.ntmps58
    go_wp2
    go_loopw [5, 13] (fun _ i wr => ∃ k : Nat, k ≤ n ∧ i = .int .i64 k ∧ Hid (xs.take k = ys.take k) ∧ Below w.heap.size w wr) (fun _ i _ => n - (intOf i).toNat)
    case atStart => exact ⟨0, by omega, rfl, by simp [Hid], Below.refl _ _⟩
    case round =>
      obtain ⟨k, hk, rfl, hn, hbr⟩ := hrel
      by_cases hlt : k < n
      · obtain ⟨b, off, rfl, hb, hc⟩ := (h.mono hbr).2 k hlt
        obtain ⟨b', off', rfl, hb', hc'⟩ := (h'.mono hbr).2 k hlt
        have hli : (k : Int) < (n : Int) := by omega
        have hl0 : (0 : Int) ≤ (k : Int) := by omega
        go_wp2
        refine wp_region_S (fun w' => ∃ u, w' = over (wr) u) [] [(0, 0), (0, 1), (0, 2), (0, 3), (0, 4), (0, 5), (0, 6), (0, 7), (0, 8)] (by kernel_rfl) (by kernel_rfl) (by exact ⟨_, below_over (by repeat (first | assumption | exact Below.refl _ _ | refine keep_drew ?_ | refine keep_alloc ?_ _ | refine keep_trans ?_ (by assumption)))⟩) ?_
        dsimp only [pickOps, nthOp]
        repeat (first | (refine wpS_skip rfl (fun K hK => ?_); go_big_quiet_op; refine hK _ ?_; clear hK K) | (refine wpS_quiet rfl rfl (fun K hK => ?_); go_big_quiet_op; refine hK _ ?_; clear hK K))
        refine wpS_end ?_
        by_cases he : xs[k]?.getD 0 = ys[k]?.getD 0
        · have he' : (xs[k]?.getD 0 != ys[k]?.getD 0) = false := by simpa using he
          have he2 := Go.Lib.hid he; clear he
          go_wp2
          go_roundw
          case rel =>
            refine ⟨k + 1, by omega, by go_num, ?_, hbr.drew⟩
            unfold Hid
            rw [take_snoc xs 0 k (by rw [h.len]; exact hlt), take_snoc ys 0 k (by rw [h'.len]; exact hlt), hn.out, he2.out]
          case measure => simp [intOf]; omega
        · have he' : (xs[k]?.getD 0 != ys[k]?.getD 0) = true := by simpa using he
          go_wp2
          go_ret
          exact ⟨ret_bool (sameB_ne he).symm, hbr.drew⟩
      · go_wp2
        go_ret
        refine ⟨ret_bool ?_, hbr⟩
        have e1 : xs.take k = xs := List.take_of_length_le (by rw [h.len]; omega)
        have e2 : ys.take k = ys := List.take_of_length_le (by rw [h'.len]; omega)
        have := hn.out
        rw [e1, e2] at this
        simp [sameB, this]
  · have hl' : ((n : Int) != (n' : Int)) = true := by simp; omega
    go_enter Try.func58, Try.ntmps58
    go_wp2
    go_ret
    refine ⟨ret_bool ?_, Below.refl _ _⟩
    symm
    simp only [sameB, decide_eq_false_iff_not]
    rintro rfl
    exact hl (h.len.symm.trans h'.len)

set_option maxRecDepth 100000 in
set_option maxHeartbeats 1000000 in
/-- IndexFunc over rows: by what the closure hands back at each. -/
theorem indexFuncR_c (a : Option Addr) (n c : Nat) (ls : List (List Int)) (fk : Nat) (caps : Array Value) (p : Nat → Bool) (w : World) (h : RC w a n ls)
    (hcf : ∀ args w, Sem.run Try.prog (callFunc fk args) w = .ok (.enter fk args) w)
    (hcl : ∀ k, k < n → ∀ w' a1 n1 c1, Below w.heap.size w w' → IC w' a1 n1 (ls[k]?.getD []) → n1 ≤ c1 → Calls Try.prog fk (#[.slice a1 n1 c1] ++ caps) w' (fun e w'' => e = .returned (.bool (p k)) ∧ Below w'.heap.size w' w'')) :
    Calls Try.prog 59 #[.slice a n c, .func (.func fk) #[] caps] w fun e w' => e = .returned (.int .i64 (idxP p n)) ∧ Below w.heap.size w w' := by
  have hm := h.small
  have HC := Go.Lib.hid hcl
  clear hcl
  go_enter Try.func59, Try.ntmps59
  go_wp2
  go_loopw [5, 8] (fun _ i wr => ∃ k : Nat, k ≤ n ∧ i = .int .i64 k ∧ Hid (∀ j, j < k → p j = false) ∧ Below w.heap.size w wr) (fun _ i _ => n - (intOf i).toNat)
  case atStart => exact ⟨0, by omega, rfl, fun j hj => absurd hj (by omega), Below.refl _ _⟩
  case round =>
    obtain ⟨k, hk, rfl, hn, hbr⟩ := hrel
    by_cases hlt : k < n
    · obtain ⟨b, off, a1, n1, c1, rfl, hb, hc, hi, hic⟩ := (h.mono hbr).2 k hlt
      have hK := Go.Lib.hid (HC.out k hlt wr a1 n1 c1 hbr hi hic)
      go_wp2_with fail
      refine hK.out.mono ?_
      rintro e w1 ⟨rfl, hb1⟩
      go_wp2
      · have he : p k = true := by assumption
        go_ret
        exact ⟨ret_int (idxP_hit hn.out hlt he).symm, hbr.trans (hb1.mono hbr.size)⟩
      · have he : p k = false := by assumption
        go_roundw
        case rel => exact ⟨k + 1, by omega, by go_num, upB_snoc hn.out he, hbr.trans (hb1.mono hbr.size)⟩
        case measure => simp [intOf]; omega
    · have e : k = n := by omega
      subst e
      go_wp2
      go_ret
      exact ⟨ret_int (idxP_none hn.out).symm, hbr⟩


set_option maxHeartbeats 1000000 in
theorem containsFuncR_c (a : Option Addr) (n c : Nat) (ls : List (List Int)) (fk : Nat) (caps : Array Value) (p : Nat → Bool) (w : World) (h : RC w a n ls)
    (hcf : ∀ args w, Sem.run Try.prog (callFunc fk args) w = .ok (.enter fk args) w)
    (hcl : ∀ k, k < n → ∀ w' a1 n1 c1, Below w.heap.size w w' → IC w' a1 n1 (ls[k]?.getD []) → n1 ≤ c1 → Calls Try.prog fk (#[.slice a1 n1 c1] ++ caps) w' (fun e w'' => e = .returned (.bool (p k)) ∧ Below w'.heap.size w' w'')) :
    Calls Try.prog 49 #[.slice a n c, .func (.func fk) #[] caps] w fun e w' => e = .returned (.bool (anyP p n)) ∧ Below w.heap.size w w' := by
  have hE : Hid (decide (0 ≤ idxP p n) = anyP p n) := idxP_ge
  have HI := Go.Lib.hid (indexFuncR_c a n c ls fk caps p w h hcf hcl)
  generalize idxP p n = r at hE HI
  clear hcl hcf
  go_enter Try.func49, Try.ntmps49
  go_wp2_with (go_at_call 59; refine HI.out.mono ?_; rintro e w1 ⟨rfl, hb1⟩)
  go_ret
  exact ⟨ret_bool hE.out, hb1⟩

set_option maxRecDepth 100000 in
set_option maxHeartbeats 1000000 in
/-- IndexFunc over integers. -/
theorem indexFuncI_c (a : Option Addr) (n c : Nat) (xs : List Int) (fk : Nat) (caps : Array Value) (p : Nat → Bool) (w : World) (h : IC w a n xs)
    (hcf : ∀ args w, Sem.run Try.prog (callFunc fk args) w = .ok (.enter fk args) w)
    (hcl : ∀ k, k < n → ∀ w', Below w.heap.size w w' → Calls Try.prog fk (#[.int .i64 (xs[k]?.getD 0)] ++ caps) w' (fun e w'' => e = .returned (.bool (p k)) ∧ Below w'.heap.size w' w'')) :
    Calls Try.prog 61 #[.slice a n c, .func (.func fk) #[] caps] w fun e w' => e = .returned (.int .i64 (idxP p n)) ∧ Below w.heap.size w w' := by
  have hm := h.small
  have HC := Go.Lib.hid hcl
  clear hcl
  go_enter Try.func61, Try.ntmps61
  go_wp2
  go_loopw [5, 8] (fun _ i wr => ∃ k : Nat, k ≤ n ∧ i = .int .i64 k ∧ Hid (∀ j, j < k → p j = false) ∧ Below w.heap.size w wr) (fun _ i _ => n - (intOf i).toNat)
  case atStart => exact ⟨0, by omega, rfl, fun j hj => absurd hj (by omega), Below.refl _ _⟩
  case round =>
    obtain ⟨k, hk, rfl, hn, hbr⟩ := hrel
    by_cases hlt : k < n
    · obtain ⟨b, off, rfl, hb, hc⟩ := (h.mono hbr).2 k hlt
      have hK := Go.Lib.hid (HC.out k hlt wr hbr)
      go_wp2_with fail
      refine hK.out.mono ?_
      rintro e w1 ⟨rfl, hb1⟩
      go_wp2
      · have he : p k = true := by assumption
        go_ret
        exact ⟨ret_int (idxP_hit hn.out hlt he).symm, hbr.trans (hb1.mono hbr.size)⟩
      · have he : p k = false := by assumption
        go_roundw
        case rel => exact ⟨k + 1, by omega, by go_num, upB_snoc hn.out he, hbr.trans (hb1.mono hbr.size)⟩
        case measure => simp [intOf]; omega
    · have e : k = n := by omega
      subst e
      go_wp2
      go_ret
      exact ⟨ret_int (idxP_none hn.out).symm, hbr⟩

set_option maxHeartbeats 1000000 in
theorem containsFuncI_c (a : Option Addr) (n c : Nat) (xs : List Int) (fk : Nat) (caps : Array Value) (p : Nat → Bool) (w : World) (h : IC w a n xs)
    (hcf : ∀ args w, Sem.run Try.prog (callFunc fk args) w = .ok (.enter fk args) w)
    (hcl : ∀ k, k < n → ∀ w', Below w.heap.size w w' → Calls Try.prog fk (#[.int .i64 (xs[k]?.getD 0)] ++ caps) w' (fun e w'' => e = .returned (.bool (p k)) ∧ Below w'.heap.size w' w'')) :
    Calls Try.prog 55 #[.slice a n c, .func (.func fk) #[] caps] w fun e w' => e = .returned (.bool (anyP p n)) ∧ Below w.heap.size w w' := by
  have hE : Hid (decide (0 ≤ idxP p n) = anyP p n) := idxP_ge
  have HI := Go.Lib.hid (indexFuncI_c a n c xs fk caps p w h hcf hcl)
  generalize idxP p n = r at hE HI
  clear hcl hcf
  go_enter Try.func55, Try.ntmps55
  go_wp2_with (go_at_call 61; refine HI.out.mono ?_; rintro e w1 ⟨rfl, hb1⟩)
  go_ret
  exact ⟨ret_bool hE.out, hb1⟩

theorem when_c (h : Bool) (e : Int) (w : World) : Calls Try.prog 18 #[.bool h, .int .i64 e] w fun r w' => r = .returned (.int .i64 (whenV h e)) ∧ w = w' := by
  cases h
  · go_enter Try.func18, Try.ntmps18
    go_wp2
    go_ret
    exact ⟨rfl, rfl⟩
  · go_enter Try.func18, Try.ntmps18
    go_wp2
    go_ret
    exact ⟨rfl, rfl⟩

theorem lwhen_c (h : Bool) (e : Int) (w : World) : Calls Try.prog 45 #[.bool h, .int .i64 e] w fun r w' => r = .returned (.int .i64 (whenV h e)) ∧ w = w' := by
  cases h
  · go_enter Try.func45, Try.ntmps45
    go_wp2
    go_ret
    exact ⟨rfl, rfl⟩
  · go_enter Try.func45, Try.ntmps45
    go_wp2
    go_ret
    exact ⟨rfl, rfl⟩

theorem firstL_hit {xs : List Int} {k : Nat} (h : ∀ j, j < k → xs[j]?.getD 0 = 0) (hk : k < xs.length) (hx : xs[k]?.getD 0 ≠ 0) : firstL xs = xs[k]?.getD 0 := by
  induction xs generalizing k with
  | nil => simp at hk
  | cons y xs ih =>
    cases k with
    | zero => simp at hx; simp [firstL, hx]
    | succ k =>
      have h0 := h 0 (by omega)
      simp at h0
      simp only [firstL, h0]
      simp only [List.getElem?_cons_succ] at hx ⊢
      exact ih (fun j hj => by have := h (j + 1) (by omega); simpa using this) (by simpa using hk) hx
theorem firstL_none {xs : List Int} (h : ∀ j, j < xs.length → xs[j]?.getD 0 = 0) : firstL xs = 0 := by
  induction xs with
  | nil => rfl
  | cons y xs ih =>
    have h0 := h 0 (by simp)
    simp at h0
    simp only [firstL, h0]
    exact ih (fun j hj => by have := h (j + 1) (by simp; omega); simpa using this)
theorem upI_snoc {f : Nat → Int} {k : Nat} (h : ∀ j, j < k → f j = 0) (hk : f k = 0) : ∀ j, j < k + 1 → f j = 0 := upto_snoc h hk

set_option maxRecDepth 100000 in
set_option maxHeartbeats 1000000 in
theorem first_c (a : Option Addr) (n c : Nat) (xs : List Int) (w : World) (h : IC w a n xs) :
    Calls Try.prog 16 #[.slice a n c] w fun e w' => e = .returned (.int .i64 (firstL xs)) ∧ w = w' := by
  have hm := h.small
  go_enter Try.func16, Try.ntmps16
  go_wp2
  go_loop [4, 7] (fun _ i => ∃ k : Nat, k ≤ n ∧ i = .int .i64 k ∧ Hid (∀ j, j < k → xs[j]?.getD 0 = 0)) (fun _ i => n - (intOf i).toNat)
  case atStart => exact ⟨0, by omega, rfl, fun j hj => absurd hj (by omega)⟩
  case round =>
    obtain ⟨k, hk, rfl, hn⟩ := hrel
    by_cases hlt : k < n
    · obtain ⟨b, off, rfl, hb, hc⟩ := h.2 k hlt
      go_wp2
      · have he : (xs[k]?.getD 0 != 0) = true := by assumption
        go_ret
        exact ⟨ret_int (firstL_hit hn.out (by rw [h.len]; exact hlt) (by simpa using he)).symm, rfl⟩
      · have he : (xs[k]?.getD 0 != 0) = false := by assumption
        go_round
        case rel => exact ⟨k + 1, by omega, by go_num, upI_snoc (f := fun j => xs[j]?.getD 0) hn.out (by simpa using he)⟩
        case measure => simp [intOf]; omega
    · have e : k = n := by omega
      subst e
      go_wp2
      go_ret
      exact ⟨ret_int (firstL_none (by rw [h.len]; exact hn.out)).symm, rfl⟩

set_option maxRecDepth 100000 in
set_option maxHeartbeats 1000000 in
theorem lfirst_c (a : Option Addr) (n c : Nat) (xs : List Int) (w : World) (h : IC w a n xs) :
    Calls Try.prog 43 #[.slice a n c] w fun e w' => e = .returned (.int .i64 (firstL xs)) ∧ w = w' := by
  have hm := h.small
  go_enter Try.func43, Try.ntmps43
  go_wp2
  go_loop [4, 7] (fun _ i => ∃ k : Nat, k ≤ n ∧ i = .int .i64 k ∧ Hid (∀ j, j < k → xs[j]?.getD 0 = 0)) (fun _ i => n - (intOf i).toNat)
  case atStart => exact ⟨0, by omega, rfl, fun j hj => absurd hj (by omega)⟩
  case round =>
    obtain ⟨k, hk, rfl, hn⟩ := hrel
    by_cases hlt : k < n
    · obtain ⟨b, off, rfl, hb, hc⟩ := h.2 k hlt
      go_wp2
      · have he : (xs[k]?.getD 0 != 0) = true := by assumption
        go_ret
        exact ⟨ret_int (firstL_hit hn.out (by rw [h.len]; exact hlt) (by simpa using he)).symm, rfl⟩
      · have he : (xs[k]?.getD 0 != 0) = false := by assumption
        go_round
        case rel => exact ⟨k + 1, by omega, by go_num, upI_snoc (f := fun j => xs[j]?.getD 0) hn.out (by simpa using he)⟩
        case measure => simp [intOf]; omega
    · have e : k = n := by omega
      subst e
      go_wp2
      go_ret
      exact ⟨ret_int (firstL_none (by rw [h.len]; exact hn.out)).symm, rfl⟩

/-- A new slice of three, of two numbers. -/
theorem IC.new3 (w : World) (x y z : Int) (T : TypeId) : IC (w.alloc (.cells #[.int .i64 x, .int .i64 y, .int .i64 z] T)) (some ⟨w.heap.size, 0, none⟩) 3 [x, y, z] :=
  ⟨⟨rfl, by omega⟩, fun k hk => ⟨w.heap.size, 0, rfl, by simp, by
    rw [box_cells]
    match k, hk with
    | 0, _ => rfl
    | 1, _ => rfl
    | 2, _ => rfl⟩⟩
theorem IC.new2 (w : World) (x y : Int) (T : TypeId) : IC (w.alloc (.cells #[.int .i64 x, .int .i64 y] T)) (some ⟨w.heap.size, 0, none⟩) 2 [x, y] :=
  ⟨⟨rfl, by omega⟩, fun k hk => ⟨w.heap.size, 0, rfl, by simp, by
    rw [box_cells]
    match k, hk with
    | 0, _ => rfl
    | 1, _ => rfl⟩⟩
theorem IC.new1 (w : World) (x : Int) (T : TypeId) : IC (w.alloc (.cells #[.int .i64 x] T)) (some ⟨w.heap.size, 0, none⟩) 1 [x] :=
  ⟨⟨rfl, by omega⟩, fun k hk => ⟨w.heap.size, 0, rfl, by simp, by
    rw [box_cells]
    match k, hk with
    | 0, _ => rfl⟩⟩

end Go.Proofs.Ytcblpobiefmjmaa
