/- Contracts: a search's wrong. -/
import Derived.Test.YtcblpobiefmjmaaC14
namespace Go.Proofs.Ytcblpobiefmjmaa
open Go Go.RowKit
attribute [local go_sem] over_cell

theorem mem_unused {g : List Int} {x : Int} : x ∈ unusedL g ↔ 1 ≤ x ∧ x ≤ g.length ∧ hasB g x = false := by
  simp only [unusedL, unusedTo, List.mem_map, List.mem_filter, List.mem_range, Bool.not_eq_true']
  constructor
  · rintro ⟨i, ⟨h1, h2⟩, rfl⟩
    exact ⟨by omega, by omega, h2⟩
  · rintro ⟨h1, h2, h3⟩
    refine ⟨(x - 1).toNat, ⟨by omega, ?_⟩, by omega⟩
    rw [show (((x - 1).toNat : Nat) : Int) + 1 = x from by omega]; exact h3

theorem foldl_set_len (l : List (Int × Int)) : ∀ (g : List Int), (l.foldl (fun f cx => f.set cx.1.toNat cx.2) g).length = g.length := by
  induction l with
  | nil => intro g; rfl
  | cons x l ih => intro g; rw [List.foldl_cons, ih, List.length_set]

theorem fillP_len (C : Cst) (P : List Int) : (fillP C P).length = C.g.length := foldl_set_len _ _

theorem foldl_set_num (l : List (Int × Int)) (p : Int → Prop) (h0 : p 0) (hl : ∀ x, x ∈ l → p x.2) : ∀ (g : List Int), (∀ k : Nat, p (g[k]?.getD 0)) → ∀ k : Nat, p ((l.foldl (fun f cx => f.set cx.1.toNat cx.2) g)[k]?.getD 0) := by
  induction l with
  | nil => intro g hg; exact hg
  | cons x l ih =>
    intro g hg
    rw [List.foldl_cons]
    refine ih (fun y hy => hl y (List.mem_cons_of_mem _ hy)) _ fun k => ?_
    rw [List.getElem?_set]
    by_cases e : x.1.toNat = k
    · rw [if_pos e]
      by_cases e2 : x.1.toNat < g.length
      · rw [if_pos e2]; exact hl x List.mem_cons_self
      · rw [if_neg e2]; exact h0
    · rw [if_neg e]; exact hg k

theorem fillP_num {C : Cst} {P : List Int} (hf : Fine C) (ho : OkP C P) (k : Nat) : 0 ≤ (fillP C P)[k]?.getD 0 ∧ (fillP C P)[k]?.getD 0 ≤ 256 := by
  refine foldl_set_num _ (fun x => 0 ≤ x ∧ x ≤ 256) (by decide) (fun x hx => ?_) _ hf.num k
  have := mem_unused.1 (ho.num _ (List.of_mem_zip hx).2)
  have := hf.len
  have := hf.most
  omega

theorem SR.ic {w : World} {b : Nat} {Im : Nat → Prop} {C : Cst} {P : List Int} {a : Option Addr} {n c : Nat} {vp : Value} (h : SR w b Im C (.slice a n c) vp P) : IC w a n (fillP C P) ∧ n ≤ c ∧ n = C.n' := by
  have hf := h.f
  have hl := fillP_len C P
  have h1 := h.fine.len
  have h2 := h.fine.most
  have hn : n = (fillP C P).length := by
    rcases hf.2 with ⟨e, e2⟩ | ⟨_, _, _, e, _⟩
    · simp only [Value.slice.injEq] at e; omega
    · simp only [Value.slice.injEq] at e; omega
  subst hn
  have := IC.of_owns hf (by omega)
  exact ⟨this.1, this.2, by omega⟩

set_option maxRecDepth 100000 in
set_option maxHeartbeats 1000000 in
theorem wrong1_c (bx b : Nat) (Im : Nat → Prop) (C : Cst) (vf vp : Value) (P : List Int) (w : World) (h : SR w b Im C vf vp P) (hxl : bx < w.heap.size) (hx : w.cell? ⟨bx, 0, none⟩ = some (.pointer (some ⟨b, 0, none⟩)))
    (a1 : Option Addr) (n1 c1 : Nat) (l : List Int) (h1 : IC w a1 n1 l) (hn : l.length ≤ 1000) (hr : ∀ x, x ∈ l → 0 ≤ x ∧ x < (C.n' : Int)) :
    Calls Try.prog 50 (#[.slice a1 n1 c1] ++ #[.pointer (some ⟨bx, 0, none⟩)]) w fun e w' => e = .returned (.bool (sumAt l (fillP C P) != C.sum)) ∧ Below w.heap.size w w' := by
  have hlt := h.lt
  have c2 := h.c2
  have c10 := h.c10
  obtain ⟨af, cf, rfl⟩ := owns_shape h.f
  have hi := h.ic
  have hnum := fun k => fillP_num h.fine h.ok k
  have hl1 := h1.len
  have HS := Go.Lib.hid (fun w' (hb : Below w.heap.size w w') => sum_c a1 af n1 (fillP C P).length c1 cf l (fillP C P) w' (h1.mono hb) (hi.1.mono hb) (by omega) (fun k hk => by
    have : l[k]?.getD 0 = l[k]'(by omega) := by rw [List.getElem?_eq_getElem (by omega)]; rfl
    rw [this]
    have := hr _ (List.getElem_mem (l := l) (n := k) (by omega))
    have := hi.2.2
    omega) (fun k => by have := hnum k; omega))
  clear h hi hnum h1 hr
  generalize sumAt l (fillP C P) = s at HS
  go_enter Try.func50, Try.ntmps50
  go_wp2
  refine wp_region_S (fun w' => ∃ u, w' = over (w) u) [12] [(0, 0), (0, 1), (0, 2), (0, 3), (0, 4), (0, 6), (0, 7), (0, 8), (0, 9), (0, 10), (1, 5), (0, 11), (2, 12)] (by kernel_rfl) (by kernel_rfl) (by exact ⟨_, below_over (by repeat (first | assumption | exact Below.refl _ _ | refine keep_drew ?_ | refine keep_alloc ?_ _ | refine keep_trans ?_ (by assumption)))⟩) ?_
  dsimp only [pickOps, nthOp]
  repeat (first | (refine wpS_skip rfl (fun K hK => ?_); go_big_quiet_op; refine hK _ ?_; clear hK K) | (refine wpS_quiet rfl rfl (fun K hK => ?_); go_big_quiet_op; refine hK _ ?_; clear hK K) | (refine wpS_loud ?_; go_wp2_with (go_at_call 51; refine (HS.out _ (keep_drew (Below.refl _ _))).mono ?_; rintro _ w1 ⟨rfl, rfl⟩); refine ⟨?_, ?_⟩; focus (exact ⟨_, below_over (by repeat (first | assumption | exact Below.refl _ _ | refine keep_drew ?_ | refine keep_alloc ?_ _ | refine keep_trans ?_ (by assumption)))⟩)))
  refine wpS_late _ _ _ rfl ?_
  dsimp only [List.map]
  go_wp2_with (go_at_call 51; refine (HS.out _ (keep_drew (Below.refl _ _))).mono ?_; rintro _ w1 ⟨rfl, rfl⟩)
  refine NoPanic.normal ?_
  go_wp2
  go_ret
  exact ⟨ret_bool rfl, (Below.refl _ _).drew⟩

def wrongB (C : Cst) (P : List Int) : Bool := (C.tbl P.length).any (fun l => sumAt l (fillP C P) != C.sum)

theorem anyP_list {α : Type} (T : List α) (d : α) (q : α → Bool) : anyP (fun k => q (T[k]?.getD d)) T.length = T.any q := by
  rw [Bool.eq_iff_iff]
  simp only [anyP, List.any_eq_true, List.mem_range]
  constructor
  · rintro ⟨k, hk, hq⟩
    refine ⟨T[k], List.getElem_mem hk, ?_⟩
    rwa [List.getElem?_eq_getElem hk] at hq
  · rintro ⟨x, hx, hq⟩
    obtain ⟨k, hk, rfl⟩ := List.getElem_of_mem hx
    exact ⟨k, hk, by rw [List.getElem?_eq_getElem hk]; exact hq⟩

set_option maxRecDepth 100000 in
set_option maxHeartbeats 1000000 in
theorem wrong_c (b : Nat) (Im : Nat → Prop) (C : Cst) (vf vp : Value) (P : List Int) (w : World) (h : SR w b Im C vf vp P) :
    Calls Try.prog 40 #[.pointer (some ⟨b, 0, none⟩)] w fun e w' => e = .returned (.bool (wrongB C P)) ∧ Below w.heap.size w w' := by
  have hB : Below w.heap.size w (w.alloc (.cells #[.pointer (some ⟨b, 0, none⟩)] 56)) := (Below.refl _ _).alloc (Nat.le_refl _) _
  have hsz : w.heap.size < (w.alloc (.cells #[.pointer (some ⟨b, 0, none⟩)] 56)).heap.size := by simp
  have hx : (w.alloc (.cells #[.pointer (some ⟨b, 0, none⟩)] 56)).cell? ⟨w.heap.size, 0, none⟩ = some (.pointer (some ⟨b, 0, none⟩)) := (box_cells w #[.pointer (some ⟨b, 0, none⟩)] _ 0).trans rfl
  have h' := h.below hB
  have hok := h.ok.len
  obtain ⟨ak, nk, ck, ht, hal, hT, hck⟩ := h'.sure.here.t P.length hok
  go_enter Try.func40, Try.ntmps40
  go_wp2
  generalize (w.alloc (.cells #[.pointer (some ⟨b, 0, none⟩)] 56)) = W0 at hB hsz hx h' ht hal hT ⊢
  have HC := Go.Lib.hid (fun w1 (hb : Below W0.heap.size W0 w1) => containsFuncR_c ak nk ck (C.tbl P.length) 50 #[.pointer (some ⟨w.heap.size, 0, none⟩)] (fun k => sumAt ((C.tbl P.length)[k]?.getD []) (fillP C P) != C.sum) w1 (hT.mono hb) (by intro args w; kernel_rfl) (fun k hk w2 a1 n1 c1 hb2 hi hc1 => by
    have hb3 := hb.trans (hb2.mono hb.size)
    have hm : (C.tbl P.length)[k]?.getD [] ∈ C.ls := by
      have hk' : k < (C.tbl P.length).length := by rw [hT.len]; exact hk
      rw [List.getElem?_eq_getElem hk']
      exact (List.mem_filter.1 (show _ ∈ C.ls.filter _ from List.getElem_mem hk')).1
    exact wrong1_c w.heap.size b Im C vf vp P w2 (h'.below hb3) (Nat.lt_of_lt_of_le hsz hb3.size) (((bcell hb3).1 _ _ hsz).trans hx) a1 n1 c1 _ hi (h.fine.line _ hm).1 (h.fine.line _ hm).2))
  have hE : Hid (anyP (fun k => sumAt ((C.tbl P.length)[k]?.getD []) (fillP C P) != C.sum) nk = wrongB C P) := by
    unfold Hid
    rw [wrongB, ← anyP_list (C.tbl P.length) [] (fun l => sumAt l (fillP C P) != C.sum), hT.len]
  generalize anyP (fun k => sumAt ((C.tbl P.length)[k]?.getD []) (fillP C P) != C.sum) nk = r at HC hE
  have hlt := h'.lt
  have c9 := h'.c9
  have c11 := h'.c11
  obtain ⟨ap, cp, rfl⟩ := owns_shape h'.p
  have hok1 : (P.length : Int) < ((C.O.length + 1 : Nat) : Int) := by omega
  have hok2 : (0 : Int) ≤ (P.length : Int) := by omega
  clear h h' hT
  refine wp_region_S (fun w' => ∃ u, w' = over (W0) u) [13, 12] [(0, 0), (0, 1), (0, 2), (0, 3), (0, 4), (0, 5), (0, 6), (0, 7), (0, 8), (0, 9), (0, 10), (0, 11), (2, 12), (2, 13)] (by kernel_rfl) (by kernel_rfl) (by exact ⟨_, below_over (by repeat (first | assumption | exact Below.refl _ _ | refine keep_drew ?_ | refine keep_alloc ?_ _ | refine keep_trans ?_ (by assumption)))⟩) ?_
  dsimp only [pickOps, nthOp]
  repeat (first | (refine wpS_skip rfl (fun K hK => ?_); go_big_quiet_op; refine hK _ ?_; clear hK K) | (refine wpS_quiet rfl rfl (fun K hK => ?_); go_big_quiet_op; refine hK _ ?_; clear hK K))
  refine wpS_late _ _ _ rfl ?_
  dsimp only [List.map]
  go_wp2_with (go_at_call 49; refine (HC.out _ (keep_drew (Below.refl _ _))).mono ?_; rintro _ w1 ⟨rfl, hb1⟩)
  refine NoPanic.normal ?_
  go_wp2
  go_ret
  exact ⟨ret_bool hE.out, hB.drew.trans (hb1.mono (Nat.le_of_lt hsz))⟩

end Go.Proofs.Ytcblpobiefmjmaa
