/- Contracts: has, put, drop of a set. -/
import Derived.Test.YtcblpobiefmjmaaC5
namespace Go.Proofs.Ytcblpobiefmjmaa
open Go Go.RowKit
attribute [local go_sem] over_cell

/-- Four words at a place are the set M. -/
def SetC (w : World) (b off M : Nat) : Prop := ∀ q, q < 4 → w.cell? ⟨b, off + q, none⟩ = some (.int .u64 ((word M q : Nat) : Int))

/-- One word of the set at a place has been written: it is M' now. -/
def PutW (w w' : World) (b off M M' : Nat) : Prop :=
  ∃ q, q < 4 ∧ w' = (w.setCell ⟨b, off + q, none⟩ (.int .u64 ((word M' q : Nat) : Int))).drew ∧ ∀ q', q' ≠ q → word M' q' = word M q'

theorem bit_split {x : Int} (h1 : 1 ≤ x) : ((x - 1) / 64).toNat = (x.toNat - 1) / 64 ∧ ((x - 1) % 64).toNat = (x.toNat - 1) % 64 ∧ x.toNat - 1 = 64 * ((x.toNat - 1) / 64) + (x.toNat - 1) % 64 := by
  refine ⟨by omega, by omega, by omega⟩

theorem and_one_bit (v r : Nat) (hv : v < 18446744073709551616) : (bits BinOp.and IntKind.u64 ((v : Int) / 2 ^ r) 1 == 1) = v.testBit r := by
  have e : ((v : Int) / 2 ^ r) = ((v / 2 ^ r : Nat) : Int) := by simp
  have hlt : v / 2 ^ r < 18446744073709551616 := Nat.lt_of_le_of_lt (Nat.div_le_self _ _) hv
  rw [e, show (1 : Int) = ((1 : Nat) : Int) from rfl, u64_and_nat _ _ hlt (by decide)]
  rw [Nat.testBit_eq_decide_div_mod_eq, Nat.and_one_is_mod]
  have : v / 2 ^ r % 2 = 0 ∨ v / 2 ^ r % 2 = 1 := by omega
  rcases this with h | h <;> simp [h]

theorem or_bit (v r : Nat) (hv : v < 18446744073709551616) (hr : r < 64) : bits BinOp.or IntKind.u64 (v : Int) (IntKind.u64.wrap (2 ^ r)) = ((v ||| 2 ^ r : Nat) : Int) := by
  have h2 : 2 ^ r < 18446744073709551616 := by
    rw [show (18446744073709551616 : Nat) = 2 ^ 64 from by decide]; exact Nat.pow_lt_pow_right (by decide) hr
  have e : IntKind.u64.wrap (2 ^ r) = ((2 ^ r : Nat) : Int) := by
    rw [IntKind.wrap_u64]
    have : ((2 : Int) ^ r) = ((2 ^ r : Nat) : Int) := by simp
    rw [this]
    generalize 2 ^ r = m at h2 ⊢
    omega
  rw [e, u64_or_nat _ _ hv h2]

theorem andNot_bit (v r : Nat) (hv : v < 18446744073709551616) (hr : r < 64) : bits BinOp.andNot IntKind.u64 (v : Int) (IntKind.u64.wrap (2 ^ r)) = ((v &&& (18446744073709551615 - 2 ^ r) : Nat) : Int) := by
  have h2 : 2 ^ r < 18446744073709551616 := by
    rw [show (18446744073709551616 : Nat) = 2 ^ 64 from by decide]; exact Nat.pow_lt_pow_right (by decide) hr
  have e : IntKind.u64.wrap (2 ^ r) = ((2 ^ r : Nat) : Int) := by
    rw [IntKind.wrap_u64]
    have : ((2 : Int) ^ r) = ((2 ^ r : Nat) : Int) := by simp
    rw [this]
    generalize 2 ^ r = m at h2 ⊢
    omega
  rw [e, u64_andNot_nat _ _ hv h2]

set_option maxRecDepth 100000 in
set_option maxHeartbeats 1000000 in
theorem shas_c (b off M : Nat) (x : Int) (w : World) (h : SetC w b off M) (hx1 : 1 ≤ x) (hx2 : x ≤ 256) :
    Calls Try.prog 48 #[.pointer (some ⟨b, off, none⟩), .int .i64 x] w fun e w' => e = .returned (.bool (M.testBit (x.toNat - 1))) ∧ w = w' := by
  have hs := bit_split hx1
  have hc0 := h ((x.toNat - 1) / 64) (by omega)
  have hc : w.cell? ⟨b, off + ((x - 1) / 64).toNat, none⟩ = some (.int .u64 ((word M ((x.toNat - 1) / 64) : Nat) : Int)) := by rw [hs.1]; exact hc0
  clear hc0
  have hE : Hid ((bits BinOp.and IntKind.u64 (((word M ((x.toNat - 1) / 64) : Nat) : Int) / 2 ^ ((x - 1) % 64).toNat) 1 == 1) = M.testBit (x.toNat - 1)) := by
    unfold Hid
    rw [and_one_bit _ _ (word_lt _ _), hs.2.1, testBit_word _ _ _ (Nat.mod_lt _ (by decide)), ← hs.2.2]
  clear hs
  generalize word M ((x.toNat - 1) / 64) = v at hc hE
  have h1 : (0 : Int) ≤ x - 1 := by omega
  have h2 : (x - 1) / 64 < 4 := by omega
  have h2' : 0 ≤ (x - 1) / 64 := by omega
  have h3 : (x - 1) % 64 < 64 := by omega
  have h3' : 0 ≤ (x - 1) % 64 := by omega
  go_enter Try.func48, Try.ntmps48
  go_wp2
  go_ret
  exact ⟨ret_bool hE.out, rfl⟩

set_option maxRecDepth 100000 in
set_option maxHeartbeats 1000000 in
theorem sput_c (b off M : Nat) (x : Int) (w : World) (h : SetC w b off M) (hx1 : 1 ≤ x) (hx2 : x ≤ 256) (hb : b < w.heap.size) (hfz : ∀ q, q < 4 → w.frozen? ⟨b, off + q, none⟩ = false) :
    Calls Try.prog 38 #[.pointer (some ⟨b, off, none⟩), .int .i64 x] w fun e w' => e = .returned (.tuple #[]) ∧ PutW w w' b off M (M ||| 2 ^ (x.toNat - 1)) := by
  have hs := bit_split hx1
  have hc0 := h ((x.toNat - 1) / 64) (by omega)
  have hc : w.cell? ⟨b, off + ((x - 1) / 64).toNat, none⟩ = some (.int .u64 ((word M ((x.toNat - 1) / 64) : Nat) : Int)) := by rw [hs.1]; exact hc0
  have hz : w.frozen? ⟨b, off + ((x - 1) / 64).toNat, none⟩ = false := by rw [hs.1]; exact hfz _ (by omega)
  clear hc0
  have hr : (x.toNat - 1) % 64 < 64 := Nat.mod_lt _ (by decide)
  have hE : Hid (bits BinOp.or IntKind.u64 ((word M ((x.toNat - 1) / 64) : Nat) : Int) (IntKind.u64.wrap (2 ^ ((x - 1) % 64).toNat)) = ((word (M ||| 2 ^ (x.toNat - 1)) ((x.toNat - 1) / 64) : Nat) : Int)) := by
    unfold Hid
    rw [hs.2.1, or_bit _ _ (word_lt _ _) hr]
    conv => rhs; rw [hs.2.2, word_or _ _ _ _ hr, if_pos (by omega)]
    congr 3
    omega
  have hO : Hid (∀ q', q' ≠ (x.toNat - 1) / 64 → word (M ||| 2 ^ (x.toNat - 1)) q' = word M q') := by
    intro q' hq
    rw [hs.2.2, word_or _ _ _ _ hr, if_neg (by omega)]
  have hA := Go.Lib.hid hs.1
  clear hs hr
  have hq : (x.toNat - 1) / 64 < 4 := by omega
  generalize (x.toNat - 1) / 64 = qq at *
  generalize word M qq = v at hc hE
  have h1 : (0 : Int) ≤ x - 1 := by omega
  have h2 : (x - 1) / 64 < 4 := by omega
  have h2' : 0 ≤ (x - 1) / 64 := by omega
  have h3 : (x - 1) % 64 < 64 := by omega
  have h3' : 0 ≤ (x - 1) % 64 := by omega
  clear h hfz
  go_enter Try.func38, Try.ntmps38
  go_wp2
  refine wp_region_S (fun w' => ∃ u, w' = over (w) u) [14] [(0, 0), (0, 1), (0, 2), (0, 3), (0, 4), (0, 5), (0, 6), (0, 7), (0, 8), (0, 9), (0, 10), (0, 11), (0, 12), (0, 13), (2, 14)] (by kernel_rfl) (by kernel_rfl) (by exact ⟨_, below_over (by repeat (first | assumption | exact Below.refl _ _ | refine keep_drew ?_ | refine keep_alloc ?_ _ | refine keep_trans ?_ (by assumption)))⟩) ?_
  dsimp only [pickOps, nthOp]
  repeat (first | (refine wpS_skip rfl (fun K hK => ?_); go_big_quiet_op; refine hK _ ?_; clear hK K) | (refine wpS_quiet rfl rfl (fun K hK => ?_); go_big_quiet_op; refine hK _ ?_; clear hK K))
  refine wpS_late _ _ _ rfl ?_
  dsimp only [List.map]
  go_wp2
  refine NoPanic.normal ?_
  go_wp2
  go_end0
  exact ⟨rfl, qq, hq, by rw [hE.out, hA.out], hO.out⟩

set_option maxRecDepth 100000 in
set_option maxHeartbeats 1000000 in
theorem sdrop_c (b off M : Nat) (x : Int) (w : World) (h : SetC w b off M) (hx1 : 1 ≤ x) (hx2 : x ≤ 256) (hb : b < w.heap.size) (hfz : ∀ q, q < 4 → w.frozen? ⟨b, off + q, none⟩ = false) :
    Calls Try.prog 60 #[.pointer (some ⟨b, off, none⟩), .int .i64 x] w fun e w' => e = .returned (.tuple #[]) ∧ PutW w w' b off M (clearBit M (x.toNat - 1)) := by
  have hs := bit_split hx1
  have hc0 := h ((x.toNat - 1) / 64) (by omega)
  have hc : w.cell? ⟨b, off + ((x - 1) / 64).toNat, none⟩ = some (.int .u64 ((word M ((x.toNat - 1) / 64) : Nat) : Int)) := by rw [hs.1]; exact hc0
  have hz : w.frozen? ⟨b, off + ((x - 1) / 64).toNat, none⟩ = false := by rw [hs.1]; exact hfz _ (by omega)
  clear hc0
  have hr : (x.toNat - 1) % 64 < 64 := Nat.mod_lt _ (by decide)
  have hE : Hid (bits BinOp.andNot IntKind.u64 ((word M ((x.toNat - 1) / 64) : Nat) : Int) (IntKind.u64.wrap (2 ^ ((x - 1) % 64).toNat)) = ((word (clearBit M (x.toNat - 1)) ((x.toNat - 1) / 64) : Nat) : Int)) := by
    unfold Hid
    rw [hs.2.1, andNot_bit _ _ (word_lt _ _) hr]
    conv => rhs; rw [hs.2.2, word_clear _ _ _ _ hr, if_pos (by omega)]
    congr 3
    omega
  have hO : Hid (∀ q', q' ≠ (x.toNat - 1) / 64 → word (clearBit M (x.toNat - 1)) q' = word M q') := by
    intro q' hq
    rw [hs.2.2, word_clear _ _ _ _ hr, if_neg (by omega)]
  have hA := Go.Lib.hid hs.1
  clear hs hr
  have hq : (x.toNat - 1) / 64 < 4 := by omega
  generalize (x.toNat - 1) / 64 = qq at *
  generalize word M qq = v at hc hE
  have h1 : (0 : Int) ≤ x - 1 := by omega
  have h2 : (x - 1) / 64 < 4 := by omega
  have h2' : 0 ≤ (x - 1) / 64 := by omega
  have h3 : (x - 1) % 64 < 64 := by omega
  have h3' : 0 ≤ (x - 1) % 64 := by omega
  clear h hfz
  go_enter Try.func60, Try.ntmps60
  go_wp2
  refine wp_region_S (fun w' => ∃ u, w' = over (w) u) [14] [(0, 0), (0, 1), (0, 2), (0, 3), (0, 4), (0, 5), (0, 6), (0, 7), (0, 8), (0, 9), (0, 10), (0, 11), (0, 12), (0, 13), (2, 14)] (by kernel_rfl) (by kernel_rfl) (by exact ⟨_, below_over (by repeat (first | assumption | exact Below.refl _ _ | refine keep_drew ?_ | refine keep_alloc ?_ _ | refine keep_trans ?_ (by assumption)))⟩) ?_
  dsimp only [pickOps, nthOp]
  repeat (first | (refine wpS_skip rfl (fun K hK => ?_); go_big_quiet_op; refine hK _ ?_; clear hK K) | (refine wpS_quiet rfl rfl (fun K hK => ?_); go_big_quiet_op; refine hK _ ?_; clear hK K))
  refine wpS_late _ _ _ rfl ?_
  dsimp only [List.map]
  go_wp2
  refine NoPanic.normal ?_
  go_wp2
  go_end0
  exact ⟨rfl, qq, hq, by rw [hE.out, hA.out], hO.out⟩

end Go.Proofs.Ytcblpobiefmjmaa
