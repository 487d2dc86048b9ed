/- Contracts: the least element of a set above a number; the open cells, the sum of a line. -/
import Derived.Test.YtcblpobiefmjmaaC6
namespace Go.Proofs.Ytcblpobiefmjmaa
open Go Go.RowKit
attribute [local go_sem] over_cell

def aboveM (M x : Nat) : Nat := match (List.range 257).find? (fun j => decide (x < j) && M.testBit (j - 1)) with | some j => j | none => 0

theorem aboveM_hit {M x k : Nat} (h : ∀ j, x < j → j < k → M.testBit (j - 1) = false) (hx : x < k) (hk : k ≤ 256) (hb : M.testBit (k - 1) = true) : aboveM M x = k := by
  have : (List.range 257).find? (fun j => decide (x < j) && M.testBit (j - 1)) = some k := by
    rw [List.find?_range_eq_some]
    refine ⟨by simp [hx, hb], by simp; omega, fun j hj => ?_⟩
    by_cases e : x < j
    · simp [e, h j e hj]
    · simp [e]
  simp [aboveM, this]

theorem aboveM_none {M x : Nat} (h : ∀ j, x < j → j ≤ 256 → M.testBit (j - 1) = false) : aboveM M x = 0 := by
  have : (List.range 257).find? (fun j => decide (x < j) && M.testBit (j - 1)) = none := by
    rw [List.find?_range_eq_none]
    intro j hj
    by_cases e : x < j
    · simp [e, h j e (by omega)]
    · simp [e]
  simp [aboveM, this]

theorem word_zero {M q : Nat} (h : word M q = 0) (j : Nat) (h1 : 64 * q < j) (h2 : j ≤ 64 * q + 64) : M.testBit (j - 1) = false := by
  have := testBit_word M q (j - 1 - 64 * q) (by omega)
  rw [h, show 64 * q + (j - 1 - 64 * q) = j - 1 from by omega] at this
  simpa using this.symm

set_option maxRecDepth 100000 in
set_option maxHeartbeats 1000000 in
theorem above_c (b off M x : Nat) (w : World) (h : SetC w b off M) (hx : x ≤ 256) :
    Calls Try.prog 53 #[.pointer (some ⟨b, off, none⟩), .int .i64 x] w fun e w' => e = .returned (.int .i64 (aboveM M x : Nat)) ∧ w = w' := by
  go_enter Try.func53, Try.ntmps53
  go_wp2
  go_loop [5] (fun i => ∃ k : Nat, x < k ∧ k ≤ 320 ∧ i = .int .i64 k ∧ Hid (∀ j, x < j → j < k → M.testBit (j - 1) = false)) (fun i => 400 - (intOf i).toNat)
  case atStart => exact ⟨x + 1, by omega, by omega, by go_num, fun j h1 h2 => absurd h2 (by omega)⟩
  case round =>
    obtain ⟨k, hxk, hk, rfl, hn⟩ := hrel
    by_cases hle : k ≤ 256
    · by_cases hm : k % 64 = 1
      · have hm' : ((k : Int) % 64 == 1) = true := by simp; omega
        have hq : ((k : Int) - 1) / 64 = ((k / 64 : Nat) : Int) := by omega
        have hc := h (k / 64) (by omega)
        have hq4 : ((k / 64 : Nat) : Int) < 4 := by omega
        by_cases hz : word M (k / 64) = 0
        · have hW := Go.Lib.hid (word_zero (M := M) hz)
          have hz' : (((word M (k / 64) : Nat) : Int) == 0) = true := by simp [hz]
          have hm2 := Go.Lib.hid hm
          clear hz hm
          go_wp2
          go_round
          case rel =>
            refine ⟨k + 64, by omega, by omega, by go_num, fun j h1 h2 => ?_⟩
            by_cases e : j < k
            · exact hn.out j h1 e
            · have := hm2.out
              exact hW.out j (by omega) (by omega)
          case measure => simp [intOf]; omega
        · have hz' : (((word M (k / 64) : Nat) : Int) == 0) = false := by simpa using hz
          have hm2 := Go.Lib.hid hm
          clear hz hm
          go_wp2_with (go_at_call 48; refine (shas_c _ _ _ _ _ h (by omega) (by omega)).mono ?_; rintro e w1 ⟨rfl, rfl⟩)
          · have hb : M.testBit ((k : Int).toNat - 1) = true := by assumption
            rw [Int.toNat_natCast] at hb
            go_ret
            exact ⟨ret_int (by rw [aboveM_hit hn.out hxk hle hb]), rfl⟩
          · have hb : M.testBit ((k : Int).toNat - 1) = false := by assumption
            rw [Int.toNat_natCast] at hb
            go_round
            case rel =>
              refine ⟨k + 1, by omega, by omega, by go_num, fun j h1 h2 => ?_⟩
              by_cases e : j = k
              · rw [e]; exact hb
              · exact hn.out j h1 (by omega)
            case measure => simp [intOf]; omega
      · have hm' : ((k : Int) % 64 == 1) = false := by simp; omega
        have hm2 := Go.Lib.hid hm
        clear hm
        go_wp2_with (go_at_call 48; refine (shas_c _ _ _ _ _ h (by omega) (by omega)).mono ?_; rintro e w1 ⟨rfl, rfl⟩)
        · have hb : M.testBit ((k : Int).toNat - 1) = true := by assumption
          rw [Int.toNat_natCast] at hb
          go_ret
          exact ⟨ret_int (by rw [aboveM_hit hn.out hxk hle hb]), rfl⟩
        · have hb : M.testBit ((k : Int).toNat - 1) = false := by assumption
          rw [Int.toNat_natCast] at hb
          go_round
          case rel =>
            refine ⟨k + 1, by omega, by omega, by go_num, fun j h1 h2 => ?_⟩
            by_cases e : j = k
            · rw [e]; exact hb
            · exact hn.out j h1 (by omega)
          case measure => simp [intOf]; omega
    · go_wp2
      go_ret
      exact ⟨ret_int (by rw [aboveM_none (fun j h1 h2 => hn.out j h1 (by omega))]; rfl), rfl⟩


/-- The sum of some numbers of a list. -/
def sumAt (l f : List Int) : Int := (l.map fun c => f[c.toNat]?.getD 0).foldl (· + ·) 0
def sumTo (l f : List Int) (k : Nat) : Int := sumAt (l.take k) f

theorem sumTo_succ {l f : List Int} {k : Nat} (h : k < l.length) : sumTo l f (k + 1) = sumTo l f k + f[(l[k]?.getD 0).toNat]?.getD 0 := by
  unfold sumTo sumAt
  rw [take_snoc l 0 k h]
  simp

theorem sumTo_bd {l f : List Int} {B : Int} (h0 : ∀ c : Nat, 0 ≤ f[c]?.getD 0 ∧ f[c]?.getD 0 ≤ B) (k : Nat) (hk : k ≤ l.length) : 0 ≤ sumTo l f k ∧ sumTo l f k ≤ k * B := by
  induction k with
  | zero => simp [sumTo, sumAt]
  | succ k ih =>
    have := ih (by omega)
    have h1 := h0 (l[k]?.getD 0).toNat
    rw [sumTo_succ (by omega)]
    have e : ((k + 1 : Nat) : Int) * B = k * B + B := by rw [Int.natCast_add]; simp [Int.add_mul]
    omega

set_option maxRecDepth 100000 in
set_option maxHeartbeats 1000000 in
theorem sum_c (a a' : Option Addr) (n n' c c' : Nat) (l f : List Int) (w : World) (h : IC w a n l) (h' : IC w a' n' f) (hn : n ≤ 1000)
    (hl : ∀ k, k < n → 0 ≤ l[k]?.getD 0 ∧ l[k]?.getD 0 < (n' : Int)) (hf : ∀ c : Nat, 0 ≤ f[c]?.getD 0 ∧ f[c]?.getD 0 ≤ 1000000000) :
    Calls Try.prog 51 #[.slice a n c, .slice a' n' c'] w fun e w' => e = .returned (.int .i64 (sumAt l f)) ∧ w = w' := by
  have HF := Go.Lib.hid hf
  have HL := Go.Lib.hid hl
  clear hf hl
  have hm' := h'.small
  go_enter Try.func51, Try.ntmps51
  go_wp2
  go_loop [5, 7, 10] (fun s _ i => ∃ k : Nat, k ≤ n ∧ i = .int .i64 k ∧ s = .int .i64 (sumTo l f k)) (fun _ _ i => n - (intOf i).toNat)
  case atStart => exact ⟨0, by omega, rfl, rfl⟩
  case round =>
    obtain ⟨k, hk, rfl, rfl⟩ := hrel
    have hb := sumTo_bd HF.out k (by rw [h.len]; exact hk)
    have hb2 : sumTo l f k ≤ 1000000000000 := by
      have : (k : Int) * 1000000000 ≤ 1000 * 1000000000 := Int.mul_le_mul_of_nonneg_right (by omega) (by omega)
      omega
    have hb1 := hb.1
    clear hb
    by_cases hlt : k < n
    · obtain ⟨b, off, rfl, hbb, hc⟩ := h.2 k hlt
      have hr := HL.out k hlt
      obtain ⟨x, hx⟩ : ∃ x : Nat, l[k]?.getD 0 = (x : Int) := ⟨(l[k]?.getD 0).toNat, by omega⟩
      rw [hx] at hr hc
      have hS := Go.Lib.hid (sumTo_succ (f := f) (show k < l.length by rw [h.len]; exact hlt))
      rw [hx] at hS
      clear hx
      obtain ⟨b', off', rfl, hbb', hc'⟩ := h'.2 x (by omega)
      have hfx := HF.out x
      have hr2 := hr.2
      have hr3 : x < n' := by omega
      have hfx1 := hfx.1
      have hfx2 := hfx.2
      clear hr hfx
      go_wp2
      go_round
      case rel => exact ⟨k + 1, by omega, by go_num, by rw [hS.out]; simp⟩
      case measure => simp [intOf]; omega
    · go_wp2
      go_ret
      have e : k = n := by omega
      subst e
      refine ⟨ret_int ?_, rfl⟩
      unfold sumTo
      rw [List.take_of_length_le (by rw [h.len]; omega)]

end Go.Proofs.Ytcblpobiefmjmaa
